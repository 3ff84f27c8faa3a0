/- hyper.play[int64]: its run. -/
import Derived.Test.YtamfkglnejhjdaaDoorPlayA
import Derived.Test.YtamfkglnejhjdaaDoorOpsLaw
import Derived.Test.YtamfkglnejhjdaaDoorWShort
import Derived.Test.YtamfkglnejhjdaaDoorPlayC
import Derived.Test.YtamfkglnejhjdaaDoorBaseA
namespace Go.Proofs.YtamfkglnejhjdaaDoor.PlayState
open Go.Proofs.YtamfkglnejhjdaaDoorW.PrintLast (pS tS lb sI sZ sC)
open Go.RowKit Go.Proofs.YtamfkglnejhjdaaDoorW.PrintWords Go.Proofs.YtamfkglnejhjdaaDoorW.PrintLast Go.Proofs.YtamfkglnejhjdaaDoorW.PrintMore Go.Proofs.YtamfkglnejhjdaaDoor.Fam Go.Proofs.YtamfkglnejhjdaaDoor.PHyperFold Go.Proofs.YtamfkglnejhjdaaDoor.Mon Go.Proofs.YtamfkglnejhjdaaDoor.FoldLaw Go.Proofs.YtamfkglnejhjdaaDoor.BitMath
set_option linter.unusedVariables false
set_option linter.unusedSimpArgs false
theorem opsapply_calls {op : Int} (hop : HasUnit op) (a b : Int) (w : World) :
  Calls Tryd.prog 21 #[.int .i64 op, .int .i64 a, .int .i64 b] w fun e w' => e = .returned (.tuple #[.int .i64 (wk op a b), .int .i64 0]) ∧ Below w.heap.size w w' := by
 have hb0 : 0 ≤ op ∧ op < 16 := by unfold HasUnit at hop; omega
 have HI := Aside0.mk (fun w => ops_isOp.calls op true w (isOp_yes hb0))
 have HW := Aside0.mk (fun w => ops_work.calls op a b (wk op a b) w (work_wk hop a b))
 clear hop hb0
 go_enter Tryd.func21, Tryd.ntmps21
 go_wp2_with fail
 refine (HI.out _).mono ?_
 rintro e w1 ⟨rfl, hd⟩
 have HB := Aside0.mk (show Below w.heap.size w w1 from by first | exact hd | exact hd.below)
 clear hd
 go_wp2_with fail
 refine (HW.out _).mono ?_
 rintro e w2 ⟨rfl, hd⟩
 have HB2 := Aside0.mk (below_step HB.out (by first | exact hd | exact hd.below))
 clear hd HB
 go_wp2
 go_ret2
 exact ⟨rfl, HB2.out⟩
theorem fresh_calls (gU : Nat) (un : Int) (w : World) (hU : w.cell? ⟨gU, 0, none⟩ = some (.int .i64 un)) : Calls Tryd.prog 22 #[.pointer (some ⟨gU, 0, none⟩)] w fun e w' => e = .returned (.int .i64 un) ∧ Below w.heap.size w w' := by
 go_enter Tryd.func22, Tryd.ntmps22
 go_wp2
 go_ret
 exact ⟨rfl, Below.refl _ _⟩
theorem look_calls (a : Int) (w : World) : Calls Tryd.prog 23 #[.int .i64 a] w fun e w' => e = .returned (.tuple #[]) ∧ Below w.heap.size w w' := by
 go_enter Tryd.func23, Tryd.ntmps23
 go_wp2
 go_end0
 exact ⟨rfl, Below.refl _ _⟩
theorem both_calls (gO : Nat) {op : Int} (hop : HasUnit op) (a b : Int) (w : World) (hO : w.cell? ⟨gO, 0, none⟩ = some (.int .i64 op)) : Calls Tryd.prog 20 #[.int .i64 a, .int .i64 b, .pointer (some ⟨gO, 0, none⟩)] w fun e w' => e = .returned (.int .i64 (wk op a b)) ∧ Below w.heap.size w w' := by
 have HA := Aside0.mk (fun w => opsapply_calls hop a b w)
 clear hop
 go_enter Tryd.func20, Tryd.ntmps20
 go_wp2_with fail
 refine (HA.out _).mono ?_
 rintro e w1 ⟨rfl, hb⟩
 have HB := Aside0.mk hb
 clear hb HA hO
 go_wp2
 go_ret
 exact ⟨rfl, HB.out⟩
section
variable {w0 w w1 : World} {gp : Nat} {f : List Value} {g : Gh}
theorem PS.typed2 (h : PS w0 w gp f g) : ∀ b, (slv g.vo).ownBlock = some b → ∃ cells t, w.heap[b]? = some (.cells cells t (0, 0)) ∧ 2 = t := fun b hb => by
 obtain ⟨cells, hc⟩ := own_typed (h.f2.own _ (List.mem_cons_self ..)) b hb
 exact ⟨cells, 2, hc, rfl⟩
theorem PS.stays2 (h : PS w0 w gp f g) (hg : w.grownBy w1 (slv g.vo).ownBlock) {b t : Nat} {cs : Array Value} (h1 : w.heap[b]? = some (.cells cs t (0, 0))) (ht : t ≠ 2) : w1.heap[b]? = w.heap[b]? := by
 refine hg.block b (blk_lt h1) (fun e => ?_)
 obtain ⟨cells, t', h2, rfl⟩ := h.typed2 b e.symm
 rw [h1] at h2
 injection h2 with h2
 injection h2 with _ h2
 exact ht h2
theorem PS.view_made (h : PS w0 w gp f g) (hf : f.length = 4) {ok : Nat → Prop} {t1 : Sl} {x : Int}
  (ho : Kd.R (Kd.int .i64) 2 w1 w0.heap.size ok (slv t1) (g.vs ++ [x])) (hb : Below w0.heap.size w0 w1) (hg : w.grownBy w1 (slv g.vo).ownBlock) (hat : (slv t1).ownBlock = (slv g.vo).ownBlock ∨ ∃ b, (slv t1).ownBlock = some b ∧ w.heap.size ≤ b) :
  PS w0 (w1.setCell ⟨gp, 4, none⟩ (slv t1)) gp f { g with vs := g.vs ++ [x], vo := t1 } := by
 have ty : ∀ {e : Nat}, e ≠ 2 → ∀ b, (slv g.vo).ownBlock = some b → ∃ cells t, w.heap[b]? = some (.cells cells t (0, 0)) ∧ e ≠ t := fun he b hb => by
  obtain ⟨cells, t, hc, rfl⟩ := h.typed2 b hb
  exact ⟨cells, _, hc, he⟩
 have bp := (h.stays2 hg h.bp (by decide)).trans h.bp
 have f3 := fam_grown h.f3 hg (ty (by decide))
 have f24 := fam_grown h.f24 hg (ty (by decide))
 have mg := mg_grown h.mg k3_E hg (ty (by decide))
 have f2 := fam_grew (h1 := fun _ => rfl) h.f2 0 rfl ho hg hat
 simp only [List.set_cons_zero] at f2
 have keep : ∀ b, b < w1.heap.size → b ≠ gp → (w1.setCell ⟨gp, 4, none⟩ (slv t1)).heap[b]? = w1.heap[b]? := fun b hb hn =>
  ((Kept.refl w1 (fun k => k = gp)).setCell (p := ⟨gp, 4, none⟩) (.inl rfl) (slv t1)).2 b hb hn
 refine ⟨hb.setCell (p := ⟨gp, 4, none⟩) h.gep _, ?_, h.gep, f2.far bp (by decide) keep, f3.far bp (by decide) keep, f24.far bp (by decide) keep, ?_, h.pk⟩
 ·obtain ⟨a, b, c', d, rfl⟩ : ∃ a b c' d, f = [a, b, c', d] := by
   match f, hf with
   | [a, b, c', d], _ => exact ⟨a, b, c', d, rfl⟩
  exact blk_put bp 4 _ rfl
 ·exact mg_grown mg k3_E (row := some gp) ⟨rfl, rfl, rfl, by simp, fun b hb hn => keep b hb (fun e => hn (by rw [e]))⟩ (fun b hb => by injection hb with hb; subst hb; exact ⟨_, _, bp, by decide⟩)
theorem PS.view_put (h : PS w0 w gp f g) {gv n c : Nat} (hvo : g.vo = (some ⟨gv, 0, none⟩, n, c)) (i : Nat) (x : Int) : PS w0 (w.setCell ⟨gv, i, none⟩ (.int .i64 x)) gp f { g with vs := g.vs.set i x } := by
 have e : (slv g.vo) = .slice (some ⟨gv, 0, none⟩) n c := by rw [hvo]; rfl
 have f2 := h.f2
 rw [e] at f2
 obtain ⟨cells2, h2⟩ := own_typed (f2.own _ (List.mem_cons_self ..)) gv rfl
 have hbase : w0.heap.size ≤ gv ∧ gv < w.heap.size := f2.lt (List.mem_cons_self ..) rfl
 have keep : ∀ b, b < w.heap.size → b ≠ gv → (w.setCell ⟨gv, i, none⟩ (.int .i64 x)).heap[b]? = w.heap[b]? := fun b hb hn =>
  ((Kept.refl w (fun k => k = gv)).setCell (p := ⟨gv, i, none⟩) (.inl rfl) (.int .i64 x)).2 b hb hn
 have f2' := fam_wrote (h1 := fun _ => rfl) f2 0 rfl i x
 simp only [List.set_cons_zero] at f2'
 have n1 : gp ≠ gv := blk_ne h.bp h2 (by decide)
 refine ⟨h.hb.setCell (p := ⟨gv, i, none⟩) hbase.1 _, (keep gp (blk_lt h.bp) n1).trans h.bp, h.gep, ?_, h.f3.far h2 (by decide) keep, h.f24.far h2 (by decide) keep, ?_, h.pk⟩
 ·show Fam (Value.int .i64) 2 _ _ [(slv g.vo, g.vs.set i x)]
  rw [e]
  exact f2'
 ·exact mg_grown h.mg k3_E (row := some gv) ⟨rfl, rfl, rfl, by simp, fun b hb hn => keep b hb (fun e => hn (by rw [e]))⟩ (fun b hb => by injection hb with hb; subst hb; exact ⟨_, _, h2, by decide⟩)
end
end Go.Proofs.YtamfkglnejhjdaaDoor.PlayState
namespace Go.Proofs.YtamfkglnejhjdaaDoor.PInfo
open Go.Proofs.YtamfkglnejhjdaaDoorW.PrintLast (pS tS lb sI sZ sC)
theorem infoI64 : (Tryd.prog.info? 2).map (fun i => (i.zero, i.size, i.bytes)) = some (some (.int .i64 0), 1, 8) := by kernel_rfl
theorem infoInt : (Tryd.prog.info? 3).map (fun i => (i.zero, i.size, i.bytes)) = some (some (.int .i64 0), 1, 8) := by kernel_rfl
end Go.Proofs.YtamfkglnejhjdaaDoor.PInfo
namespace Go.Proofs.YtamfkglnejhjdaaDoor.PlayState
open Go.Proofs.YtamfkglnejhjdaaDoorW.PrintLast (pS tS lb sI sZ sC)
open Go.RowKit Go.Proofs.YtamfkglnejhjdaaDoorW.PrintWords Go.Proofs.YtamfkglnejhjdaaDoorW.PrintLast Go.Proofs.YtamfkglnejhjdaaDoorW.PrintMore Go.Proofs.YtamfkglnejhjdaaDoor.Fam
set_option linter.unusedVariables false
theorem goesC_ {P : Program} {ops : Array Oper} {Q : Exit → Act → World → Prop} {oi : Oper} {N : Option Tmp} {a : Act} {w : World} {K : Act → World → Prop} {f : FuncId} {fn : Func} {x : Operand} {ars : Array Operand} {ts : Array TypeId} {caps : Array Value} (hf : P.funcs[f]? = some fn) (hname : (fn.name == "runtime.NumGoroutine") = false) (hb : fn.body.isSome = true) (args : Array Value)
  (hw : Region.wanted oi (yielded ops a.tmps) = true) (hN : oi.dst = N) (hop : oi.op = .call { callee := .value x, args := ars, argTypes := ts }) (hx : a.eval x = .func (.func f) #[] caps) (hargs : ars.map a.eval ++ caps = args)
  (h : Calls P f args w fun e w' => ∃ v, e = .returned v ∧ K (a.put N v) w') : if Region.wanted oi (yielded ops a.tmps) = true then Oper.wp P oi a w K Q else K (a.put N undef) w := by
 refine call_ f args hw hN ?_ h
 have he := enters_ hf hname hb args w
 subst hargs
 unfold execOp
 simp [hop, resolve, Deferred.ofValue, invoke, hx, he]
section
variable {w0 w w1 : World} {gp : Nat} {f : List Value} {g : Gh}
theorem PS.outer_at (h : PS w0 w gp f g) (hoh : g.oh = g.rs.map (·.1)) {rs : List Hd} {c : Hd} (hr : g.rs = rs ++ [c]) {gr n cr : Nat} (hro : g.ro = (some ⟨gr, 0, none⟩, n, cr)) :
  w.cell? ⟨gr, rs.length, none⟩ = some (slv c.1) ∧ w.frozen? ⟨gr, rs.length, none⟩ = false ∧ ∃ cells, w.heap[gr]? = some (.cells cells 24 (0, 0)) := by
 obtain ⟨g2, c2, e1, hx, hf⟩ := fam_at (h1 := slv_one) h.f24 0 rfl (none, 0, 0) rs.length (by rw [hoh, hr]; simp)
 have e2 := slv_form e1
 rw [hro] at e2
 obtain rfl : gr = g2 := by injection e2 with e2; injection e2 with e2; injection e2
 have hv : g.oh.getD rs.length (none, 0, 0) = c.1 := by rw [hoh, hr]; simp
 rw [hv] at hx
 refine ⟨hx, hf, ?_⟩
 exact own_typed (h.f24.own _ (List.mem_singleton.2 rfl)) gr (by show (slv g.ro).ownBlock = _; rw [hro]; rfl)
theorem PS.stays3 (h : PS w0 w gp f g) {v : Value} {xs : List Int} (hm : (v, xs) ∈ g.rs.map hv ++ [hv g.sp]) (hg : w.grownBy w1 v.ownBlock) {b t : Nat} {cs : Array Value} (h1 : w.heap[b]? = some (.cells cs t (0, 0))) (ht : t ≠ 3) : w1.heap[b]? = w.heap[b]? := by
 refine hg.block b (blk_lt h1) (fun e => ?_)
 obtain ⟨cells, t', h2, rfl⟩ := h.typed3 hm b e.symm
 rw [h1] at h2
 injection h2 with h2
 injection h2 with _ h2
 exact ht h2
end
end Go.Proofs.YtamfkglnejhjdaaDoor.PlayState
namespace Go.Proofs.YtamfkglnejhjdaaDoor.PlayState
open Go.Proofs.YtamfkglnejhjdaaDoorW.PrintLast (pS tS lb sI sZ sC)
open Go.Proofs.YtamfkglnejhjdaaDoor.PInfo (infoI64 infoInt)
open Go.RowKit Go.Proofs.YtamfkglnejhjdaaDoorW.PrintWords Go.Proofs.YtamfkglnejhjdaaDoorW.PrintLast Go.Proofs.YtamfkglnejhjdaaDoorW.PrintMore Go.Proofs.YtamfkglnejhjdaaDoor.Fam
set_option linter.unusedSimpArgs false
set_option linter.unusedVariables false

def M41a : Bool × List (List Nat × List Nat) := (true, [([], []), ([0], [0]), ([1], [1]), ([2], [2]), ([], []), ([], []), ([5], [5]), ([6], [6]), ([7], [7]), ([], []), ([8, 9], [8, 9]), ([10], [10]), ([], []), ([12], [12]), ([13], [13]), ([14], [14]), ([15], [15]), ([16], [16]), ([11, 17], [11, 17]), ([3, 4, 0, 1, 2, 3, 4, 5, 6, 7, 8, 9, 10, 11, 12, 13, 14, 15, 16, 17, 18], [3, 4]), ([19, 18, 18, 0, 1, 2, 3, 4, 5, 6, 7, 8, 9, 10, 11, 12, 13, 14, 15, 16, 17, 18], [18, 19])])
def M41aB : List Nat := [0, 1, 3, 7, 0, 0, 32, 96, 224, 0, 992, 2016, 0, 4096, 12288, 28672, 61440, 126976, 262112, 524287, 1048575]
theorem M41a_tab : rtab .any (opsOf Tryd.f41 1) = M41a := by kernel_rfl
theorem M41a_bits : waitsOk M41a.2 M41aB = true := by kernel_rfl
def M41b : Bool × List (List Nat × List Nat) := (true, [([], []), ([], []), ([1], [1]), ([2], [2]), ([3], [3]), ([], []), ([5], [5]), ([6], [6]), ([7], [7]), ([8], [8]), ([9], [9]), ([10], [10]), ([4, 11, 10], [4, 11]), ([0, 0, 1, 2, 3, 4, 5, 6, 7, 8, 9, 10, 11, 12], [0]), ([13, 0, 1, 2, 3, 4, 5, 6, 7, 8, 9, 10, 11, 12], [13]), ([14, 12, 12, 0, 1, 2, 3, 4, 5, 6, 7, 8, 9, 10, 11, 12], [12, 14])])
def M41bB : List Nat := [0, 0, 2, 6, 14, 0, 32, 96, 224, 480, 992, 2016, 4094, 8191, 16383, 32767]
theorem M41b_tab : rtab .any (opsOf Tryd.f41 2) = M41b := by kernel_rfl
theorem M41b_bits : waitsOk M41b.2 M41bB = true := by kernel_rfl

set_option maxHeartbeats 8000000 in
set_option maxRecDepth 100000 in
theorem made_calls {w0 w : World} {gp : Nat} {f : List Value} {g : Gh} (h : PS w0 w gp f g) {gU : Nat} {un : Int} (hgU : gU < w0.heap.size ∧ w0.cell? ⟨gU, 0, none⟩ = some (.int .i64 un)) {f1 f2 f3 : Value} (hf : f = [.func (.func 22) #[] #[.pointer (some ⟨gU, 0, none⟩)], f1, f2, f3]) (hoh : g.oh = g.rs.map (·.1)) {rs : List Hd} {c : Hd} (hr : g.rs = rs ++ [c])
  (hk : rs.length ≤ 4194304) (hvb : g.vs.length ≤ 4194304) (hx : c.2.length ≤ 4194304) :
  Calls Tryd.prog 41 #[.pointer (some ⟨gp, 0, none⟩)] w fun e w' => e = .returned (.tuple #[]) ∧ ∃ t1 vo, PS w0 w' gp f { g with rs := rs ++ [(t1, c.2 ++ [(g.vs.length : Int)])], vs := g.vs ++ [un], vo := vo, oh := rs.map (·.1) ++ [t1] } := by
 have hf4 : f.length = 4 := by rw [hf]; rfl
 have hlen : g.rs.length = rs.length + 1 := by rw [hr]; simp
 obtain ⟨gr, cr, hro⟩ : ∃ gr cr, g.ro = (some ⟨gr, 0, none⟩, g.rs.length, cr) := by
  obtain ⟨g2, c2, e1, _, _⟩ := fam_at (h1 := slv_one) h.f24 0 rfl (none, 0, 0) rs.length (by rw [hoh, hr]; simp)
  have e2 := slv_form e1
  rw [hoh, List.length_map] at e2
  exact ⟨g2, c2, e2⟩
 obtain ⟨vA, vc, hvo⟩ : ∃ vA vc, g.vo = (vA, g.vs.length, vc) := by
  obtain ⟨A, c2, e1, _, _⟩ := Kd.R_reads (Fam.R (h1 := fun _ => rfl) h.f2 (List.mem_cons_self ..))
  obtain ⟨⟨a, b, d⟩, hh⟩ : ∃ t : Sl, g.vo = t := ⟨_, rfl⟩
  replace e1 : Value.slice a b d = .slice A g.vs.length c2 := by rw [← e1]; show _ = slv g.vo; rw [hh]; rfl
  injection e1 with e1 e3 e4
  exact ⟨A, c2, by rw [hh, e1, e3, e4]⟩
 have HUU := Aside0.mk hgU
 clear hgU
 obtain ⟨⟨cA, cn, cc⟩, xs⟩ := c
 obtain ⟨vn, hvn⟩ : ∃ vn, g.vs.length = vn := ⟨_, rfl⟩
 obtain ⟨k, hkk⟩ : ∃ k, rs.length = k := ⟨_, rfl⟩
 rw [hlen, hkk] at hro
 rw [hvn] at hvo hvb
 rw [hkk] at hk
 have hmem : (slv (cA, cn, cc), xs) ∈ g.rs.map hv ++ [hv g.sp] := by rw [hr]; simp [hv]
 have HS := Aside0.mk h
 have HCells : ∀ w', PS w0 w' gp f g → w'.cell? ⟨gp, 5, none⟩ = some (.slice (some ⟨gr, 0, none⟩) (k + 1) cr) ∧ w'.cell? ⟨gp, 4, none⟩ = some (.slice vA vn vc) ∧ w'.cell? ⟨gr, k, none⟩ = some (.slice cA cn cc) := fun w' h' => by
  have h1 := h'.cell hf4
  have h2 := (h'.outer_at hoh hr hro).1
  rw [hro, hvo] at h1
  rw [hkk] at h2
  exact ⟨h1.2.1, h1.1, h2⟩
 obtain ⟨Pst, hI, hE⟩ : ∃ Pst : World → Prop, (∀ t1 vo w', PS w0 w' gp f { g with rs := rs ++ [(t1, xs ++ [(g.vs.length : Int)])], vs := g.vs ++ [un], vo := vo, oh := rs.map (·.1) ++ [t1] } → Pst w') ∧ (∀ w', Pst w' → ∃ t1 vo, PS w0 w' gp f { g with rs := rs ++ [(t1, xs ++ [(g.vs.length : Int)])], vs := g.vs ++ [un], vo := vo, oh := rs.map (·.1) ++ [t1] }) :=
  ⟨fun w' => ∃ t1 vo, PS w0 w' gp f { g with rs := rs ++ [(t1, xs ++ [(g.vs.length : Int)])], vs := g.vs ++ [un], vo := vo, oh := rs.map (·.1) ++ [t1] }, fun t1 vo w' h => ⟨t1, vo, h⟩, fun w' h => h⟩
 have HI := Aside0.mk hI
 refine Calls.mono (?_ : Calls Tryd.prog 41 #[.pointer (some ⟨gp, 0, none⟩)] w fun e w' => e = .returned (.tuple #[]) ∧ Pst w') (fun e w' ⟨h1, h2⟩ => ⟨h1, hE w' h2⟩)
 clear hI hE
 have hHD := HCells
 have hGrown : ∀ w' w1, PS w0 w' gp f g → w'.grownBy w1 (Value.slice cA cn cc).ownBlock → (w1.cell? ⟨gp, 5, none⟩ = some (.slice (some ⟨gr, 0, none⟩) (k + 1) cr) ∧ w1.cell? ⟨gp, 4, none⟩ = some (.slice vA vn vc) ∧ w1.cell? ⟨gr, k, none⟩ = some (.slice cA cn cc)) ∧ w1.frozen? ⟨gr, k, none⟩ = false := fun w' w1 h' hg => by
  have h1 := HCells w' h'
  have e1 := h'.stays3 hmem hg h'.bp (by decide)
  obtain ⟨cells, h24⟩ := (h'.outer_at hoh hr hro).2.2
  have e2 := h'.stays3 hmem hg h24 (by decide)
  exact ⟨⟨(World.cell?_of_block e1).trans h1.1, (World.cell?_of_block e1).trans h1.2.1, (World.cell?_of_block e2).trans h1.2.2⟩, (World.frozen?_of_block e2).trans (by have := (h'.outer_at hoh hr hro).2.1; rw [hkk] at this; exact this)⟩
 have hHG : ∀ w' w1, PS w0 w' gp f g → w'.grownBy w1 (Value.slice cA cn cc).ownBlock → _ := fun w' w1 h' hg => (hGrown w' w1 h' hg).1
 have hFZ : ∀ w' w1, PS w0 w' gp f g → w'.grownBy w1 (Value.slice cA cn cc).ownBlock → w1.frozen? ⟨gr, k, none⟩ = false := fun w' w1 h' hg => (hGrown w' w1 h' hg).2
 have hRow : ∀ w', PS w0 w' gp f g → Kd.R (Kd.int .i64) 3 w' w0.heap.size (fun b => (Value.slice cA cn cc).ownBlock = some b ∨ w'.heap.size ≤ b) (.slice cA cn cc) xs := fun w' h' => Kd.R_mono (Fam.R (h1 := fun _ => rfl) h'.f3 hmem) (fun b hb => .inl hb)
 have hRG : ∀ w' w1 (t1 : Sl) (y : Int) (ok : Nat → Prop), PS w0 w' gp f g → Kd.R (Kd.int .i64) 3 w1 w0.heap.size ok (slv t1) (xs ++ [y]) → Below w0.heap.size w0 w1 → w'.grownBy w1 (Value.slice cA cn cc).ownBlock → ((slv t1).ownBlock = (Value.slice cA cn cc).ownBlock ∨ ∃ b, (slv t1).ownBlock = some b ∧ w'.heap.size ≤ b) →
   PS w0 (w1.setCell ⟨gr, k, none⟩ (slv t1)) gp f { g with rs := rs ++ [(t1, xs ++ [y])], oh := rs.map (·.1) ++ [t1] } := fun w' w1 t1 y ok h' ho hb hg hat => by
  have := h'.row_grew (os := rs.map (·.1)) (o := (cA, cn, cc)) (by rw [hoh, hr, List.map_append]; rfl) hr (by simp) (by rw [hro, hlen, hkk]) ho hb hg hat
  rw [hkk] at this
  exact this
 have hk2 : (k : Int) ≤ 4194304 := by omega
 have hw1 : wrap64 ((k : Int) + 1 - 1) = (k : Int) := by rw [BitMath.wrap_id (by unfold BitMath.In64; omega)]; omega
 have hw3 : wrap64 (k : Int) = (k : Int) := BitMath.wrap_id (by unfold BitMath.In64; omega)
 have l1 : ((k : Int) < (k : Int) + 1) = True := eq_true (by omega)
 have HW := Aside0.mk (And.intro h trivial)
 have hx5 := (hHD w h).1
 have HH1 := Aside0.mk hHD
 have HH2 := Aside0.mk hHG
 have HH3 := Aside0.mk hFZ
 have HH4 := Aside0.mk hRow
 have HH5 := Aside0.mk hRG
 have HX := Aside0.mk hx
 clear h HCells hGrown hHD hHG hFZ hRow hRG hx hlen hmem HS
 go_enter Tryd.func41, Tryd.ntmps41
 go_upto_region 1 with fail
 clear hx5
 refine start_ (n := 21) (S := (fun w' => w'.cell? ⟨gp, 5, none⟩ = some (.slice (some ⟨gr, 0, none⟩) (k + 1) cr) ∧ w'.cell? ⟨gp, 4, none⟩ = some (.slice vA vn vc) ∧ w'.cell? ⟨gr, k, none⟩ = some (.slice cA cn cc))) (ds := [20]) (lb 21 0) (by kernel_rfl) rfl rfl (HH1.out w HW.out.1) (fun hHeld => ?_); refine with_tabW M41a_tab M41a_bits (fun HT_ HW_ => ?_)
 have HW2 := Aside0.mk (show PS w0 w.drew gp f g from HW.out.1.below (Drawn0.below ⟨⟨1, rfl⟩⟩))
 generalize w.drew = w2 at HW2 hHeld ⊢
 refine pS 0 9 1 21 HT_.out ?_
 refine pS 1 10 3 21 HT_.out ?_
 refine pS 2 11 7 21 HT_.out ?_
 refine tS 3 12 15 21 HT_.out HW_.out hHeld ?_
 refine pS 4 13 31 21 HT_.out ?_
 refine pS 5 14 63 21 HT_.out ?_
 refine pS 6 15 127 21 HT_.out ?_
 refine pS 7 16 255 21 HT_.out ?_
 refine tS 8 17 511 21 HT_.out HW_.out hHeld ?_
 refine pS 9 18 1023 21 HT_.out ?_
 refine pS 10 19 2047 21 HT_.out ?_
 refine tS 11 20 4095 21 HT_.out HW_.out hHeld ?_
 refine pS 12 21 8191 21 HT_.out ?_
 refine pS 13 22 16383 21 HT_.out ?_
 refine pS 14 23 32767 21 HT_.out ?_
 refine tS 15 24 65535 21 HT_.out HW_.out hHeld ?_
 refine pS 16 25 131071 21 HT_.out ?_
 refine one_ (i := 17) (N := some 26) (lb 21 262143) rfl rfl (one_of HT_.out (by kernel_rfl)) (by decide) (fun K hK => ?_)
 refine value_ (w1 := ?_) (v := ?_) (by rfl) rfl ?_ ?_
 rotate_left 2
 ·go_simp
  constructor
  ·rfl
  ·rfl
 refine hK.out _ _ (HH1.out _ (HW2.out.below (below_alloc (Below.refl _ _) _))) (fun hHeld => ?_)
 clear hK K
 refine norm_ (a' := ?_) ?_ ?_
 rotate_left
 ·show Act.put _ (some 26) _ = _
  simp only [Act.put, sI, sZ, sC, i64_w, i32_w]
  rfl
 refine one_ (i := 18) (N := some 27) (lb 21 524287) rfl rfl (one_of HT_.out (by kernel_rfl)) (by decide) (fun K hK => ?_)
 refine Kd.R_append_step (Kd.int .i64) (w0 := w0) w0.heap.size (by rfl) (.tmp 20) (.tmp 26) 24 3 (.int .i64 0) 8 rfl Tryd.underlying24 infoInt rfl (by decide) (by omega) (.slice cA cn cc) xs (vn : Int) [.int .i64 (vn : Int)] (fun b => (Value.slice cA cn cc).ownBlock = some b ∨ w2.heap.size ≤ b) (fun _ => False) rfl rfl ?aP (fun _ hk => hk.elim) ?aF ?aO ?aB ?aS ?aL ?_
 (case aP => exact rfl)
 (case aB => exact HW2.out.hb)
 (case aF => exact (fun k_ hk => .inr hk))
 (case aO => exact HH4.out w2 HW2.out)
 (case aS => exact (below_size HW2.out.hb))
 (case aL => have := HX.out; simp only at this; omega)
 intro v1 w5 ho hb hg hat
 obtain ⟨A1, c1, rfl, _, _⟩ := Kd.R_reads ho
 have HG := Aside0.mk (And.intro ho (And.intro hb (And.intro hg hat)))
 clear ho hb hg hat
 refine hK.out _ _ (HH2.out w2 w5 HW2.out HG.out.2.2.1) (fun hHeld => ?_)
 clear hK K
 refine norm_ (a' := ?_) ?_ ?_
 rotate_left
 ·show Act.put _ (some 27) _ = _
  simp only [Act.put, sI, sZ, sC, i64_w, i32_w]
  rfl
 refine pS 19 28 1048575 21 HT_.out ?_
 have hfz := HH3.out w2 w5 HW2.out HG.out.2.2.1
 refine last_ (i := 20) (N := none) (lb 21 2097151) rfl rfl (one_of HT_.out (by kernel_rfl)) (by decide) (fun K hK => ?_)
 refine skip_ (w1 := ?_) (by rfl) rfl ?_ ?_
 rotate_left
 ·go_simp
  rfl
 refine hK.out _ _ ?_
 clear hK K
 refine done_ (done_of HT_.out (by kernel_rfl)) ?_
 clear HT_ HW_ hHeld

 have hv6 := HH5.out w2 w5 (A1, (xs ++ [(vn : Int)]).length, c1) (vn : Int) _ HW2.out HG.out.1 HG.out.2.1 HG.out.2.2.1 HG.out.2.2.2
 rw [show (xs ++ [(vn : Int)]).length = xs.length + 1 from by simp] at hv6
 replace hv6 : PS w0 (w5.setCell ⟨gr, k, none⟩ (.slice A1 (xs.length + 1) c1)) gp f { g with rs := rs ++ [((A1, xs.length + 1, c1), xs ++ [(vn : Int)])], oh := rs.map (·.1) ++ [(A1, xs.length + 1, c1)] } := hv6
 obtain ⟨t1, ht1⟩ : ∃ t1 : Sl, t1 = (A1, xs.length + 1, c1) := ⟨_, rfl⟩
 rw [← ht1] at hv6
 obtain ⟨g1, hg1⟩ : ∃ g1 : Gh, g1 = { g with rs := rs ++ [(t1, xs ++ [(vn : Int)])], oh := rs.map (·.1) ++ [t1] } := ⟨_, rfl⟩
 rw [← hg1] at hv6
 have hvo1 : g1.vo = (vA, vn, vc) := by rw [hg1]; exact hvo
 have hvs1 : g1.vs = g.vs := by rw [hg1]
 have HV := Aside0.mk hv6
 have HL1 := Aside0.mk (show g1.vs.length ≤ 4194304 by rw [hvs1, hvn]; exact hvb)
 have hCell2 : ∀ w', PS w0 w' gp f g1 → w'.cell? ⟨gp, 4, none⟩ = some (.slice vA vn vc) ∧ w'.cell? ⟨gp, 0, none⟩ = some (.func (.func 22) #[] #[.pointer (some ⟨gU, 0, none⟩)]) := fun w' h' => by
  have h1 := (h'.cell hf4).1
  rw [hvo1] at h1
  exact ⟨h1, by subst hf; exact (blk_cell h'.bp 0).trans rfl⟩
 have hGrown2 : ∀ w' w1, PS w0 w' gp f g1 → w'.grownBy w1 (Value.slice vA vn vc).ownBlock → (w1.cell? ⟨gp, 4, none⟩ = some (.slice vA vn vc) ∧ w1.cell? ⟨gp, 0, none⟩ = some (.func (.func 22) #[] #[.pointer (some ⟨gU, 0, none⟩)])) ∧ w1.frozen? ⟨gp, 4, none⟩ = false := fun w' w1 h' hg => by
  have e1 := h'.stays2 (by rw [hvo1]; exact hg) h'.bp (by decide)
  have h1 := hCell2 w' h'
  exact ⟨⟨(World.cell?_of_block e1).trans h1.1, (World.cell?_of_block e1).trans h1.2⟩, (World.frozen?_of_block e1).trans (blk_frozen h'.bp 4)⟩
 have hOut : ∀ w', PS w0 w' gp f g1 → Kd.R (Kd.int .i64) 2 w' w0.heap.size (fun b => (Value.slice vA vn vc).ownBlock = some b ∨ w'.heap.size ≤ b) (.slice vA vn vc) (g1.vs) := fun w' h' => by
  have h2 := Fam.R (h1 := fun _ => rfl) h'.f2 (List.mem_cons_self ..)
  rw [hvo1] at h2
  exact Kd.R_mono h2 (fun b hb => .inl hb)
 have hView : ∀ w' w1 (t2 : Sl) (ok : Nat → Prop), PS w0 w' gp f g1 → Kd.R (Kd.int .i64) 2 w1 w0.heap.size ok (slv t2) (g1.vs ++ [un]) → Below w0.heap.size w0 w1 → w'.grownBy w1 (Value.slice vA vn vc).ownBlock → ((slv t2).ownBlock = (Value.slice vA vn vc).ownBlock ∨ ∃ b, (slv t2).ownBlock = some b ∧ w'.heap.size ≤ b) →
   PS w0 (w1.setCell ⟨gp, 4, none⟩ (slv t2)) gp f { g1 with vs := g1.vs ++ [un], vo := t2 } := fun w' w1 t2 ok h' ho hb hg hat => h'.view_made hf4 ho hb (by rw [hvo1]; exact hg) (by rw [hvo1]; exact hat)
 have HJ1 := Aside0.mk hCell2
 have HJ2 := Aside0.mk hGrown2
 have HJ3 := Aside0.mk hOut
 have HJ4 := Aside0.mk hView
 have HE1 := Aside0.mk hg1
 have HE2 := Aside0.mk hvn
 generalize w5.setCell ⟨gr, k, none⟩ (.slice A1 (xs.length + 1) c1) = w6 at HV ⊢
 clear hv6 hCell2 hGrown2 hOut hView hg1 hvo1 hvs1 HG HW2 hfz HH1 HH2 HH3 HH4 HH5 ht1
 go_upto_region 2 with fail
 refine start_ (n := 16) (S := (fun w' => w'.cell? ⟨gp, 4, none⟩ = some (.slice vA vn vc) ∧ w'.cell? ⟨gp, 0, none⟩ = some (.func (.func 22) #[] #[.pointer (some ⟨gU, 0, none⟩)]))) (ds := [15]) (lb 16 0) (by kernel_rfl) rfl rfl (HJ1.out w6 HV.out) (fun hHeld => ?_); refine with_tabW M41b_tab M41b_bits (fun HT_ HW_ => ?_)
 have HV2 := Aside0.mk (show PS w0 w6.drew gp f g1 from HV.out.below (Drawn0.below ⟨⟨1, rfl⟩⟩))
 clear HV
 generalize w6.drew = w7 at HV2 hHeld ⊢
 refine pS 0 29 1 16 HT_.out ?_
 refine pS 1 30 3 16 HT_.out ?_
 refine pS 2 31 7 16 HT_.out ?_
 refine pS 3 32 15 16 HT_.out ?_
 refine tS 4 33 31 16 HT_.out HW_.out hHeld ?_
 refine pS 5 34 63 16 HT_.out ?_
 refine pS 6 35 127 16 HT_.out ?_
 refine pS 7 36 255 16 HT_.out ?_
 refine pS 8 37 511 16 HT_.out ?_
 refine tS 9 38 1023 16 HT_.out HW_.out hHeld ?_
 refine one_ (i := 10) (N := some 39) (lb 16 2047) rfl rfl (one_of HT_.out (by kernel_rfl)) (by decide) (fun K hK => ?_)
 refine goesC_ Tryd.func22 (by kernel_rfl) rfl #[.pointer (some ⟨gU, 0, none⟩)] (by rfl) rfl rfl rfl (by (try simp only [List.map_toArray, List.map_cons, List.map_nil]); first | done | rfl) ?_
 with_reducible refine (fresh_calls gU un w7 ((HV2.out.hb.cell (p := ⟨gU, 0, none⟩) HUU.out.1).trans HUU.out.2)).mono ?_
 rintro e w8 ⟨rfl, hd⟩
 have HV3 := Aside0.mk (HV2.out.below hd)
 clear hd HV2
 refine ⟨_, rfl, ?_⟩
 refine hK.out _ _ (HJ1.out w8 HV3.out) (fun hHeld => ?_)
 clear hK K
 refine norm_ (a' := ?_) ?_ ?_
 rotate_left
 ·show Act.put _ (some 39) _ = _
  simp only [Act.put, sI, sZ, sC, i64_w, i32_w]
  rfl
 refine one_ (i := 11) (N := some 40) (lb 16 4095) rfl rfl (one_of HT_.out (by kernel_rfl)) (by decide) (fun K hK => ?_)
 refine value_ (w1 := ?_) (v := ?_) (by rfl) rfl ?_ ?_
 rotate_left 2
 ·go_simp
  constructor
  ·rfl
  ·rfl
 refine hK.out _ _ (HJ1.out _ (HV3.out.below (below_alloc (Below.refl _ _) _))) (fun hHeld => ?_)
 clear hK K
 refine norm_ (a' := ?_) ?_ ?_
 rotate_left
 ·show Act.put _ (some 40) _ = _
  simp only [Act.put, sI, sZ, sC, i64_w, i32_w]
  rfl
 refine one_ (i := 12) (N := some 41) (lb 16 8191) rfl rfl (one_of HT_.out (by kernel_rfl)) (by decide) (fun K hK => ?_)
 refine Kd.R_append_step (Kd.int .i64) (w0 := w0) w0.heap.size (by rfl) (.tmp 33) (.tmp 40) 36 2 (.int .i64 0) 8 rfl Tryd.underlying36 infoI64 rfl (by decide) (by omega) (.slice vA vn vc) (g1.vs) un [.int .i64 un] (fun b => (Value.slice vA vn vc).ownBlock = some b ∨ w8.heap.size ≤ b) (fun _ => False) rfl rfl ?aP (fun _ hk => hk.elim) ?aF ?aO ?aB ?aS ?aL ?_
 (case aP => exact rfl)
 (case aB => exact HV3.out.hb)
 (case aF => exact (fun k_ hk => .inr hk))
 (case aO => exact HJ3.out w8 HV3.out)
 (case aS => exact (below_size HV3.out.hb))
 (case aL => have := HL1.out; omega)
 intro v2 w9 ho hb hg hat
 obtain ⟨A2, c2, rfl, _, _⟩ := Kd.R_reads ho
 have HG2 := Aside0.mk (And.intro ho (And.intro hb (And.intro hg hat)))
 clear ho hb hg hat
 refine hK.out _ _ ((HJ2.out w8 w9 HV3.out HG2.out.2.2.1).1) (fun hHeld => ?_)
 clear hK K
 refine norm_ (a' := ?_) ?_ ?_
 rotate_left
 ·show Act.put _ (some 41) _ = _
  simp only [Act.put, sI, sZ, sC, i64_w, i32_w]
  rfl
 refine pS 13 42 16383 16 HT_.out ?_
 refine pS 14 43 32767 16 HT_.out ?_
 have hfz := (HJ2.out w8 w9 HV3.out HG2.out.2.2.1).2
 refine last_ (i := 15) (N := none) (lb 16 65535) rfl rfl (one_of HT_.out (by kernel_rfl)) (by decide) (fun K hK => ?_)
 refine skip_ (w1 := ?_) (by rfl) rfl ?_ ?_
 rotate_left
 ·go_simp
  rfl
 refine hK.out _ _ ?_
 clear hK K
 refine done_ (done_of HT_.out (by kernel_rfl)) ?_
 clear HT_ HW_ hHeld

 have F := HJ4.out w8 w9 (A2, (g1.vs ++ [un]).length, c2) _ HV3.out HG2.out.1 HG2.out.2.1 HG2.out.2.2.1 HG2.out.2.2.2
 have hl : (g1.vs ++ [un]).length = g1.vs.length + 1 := by simp
 rw [hl] at F
 have HFin := Aside0.mk F
 clear F hl
 go_wp2
 go_end0
 refine ⟨rfl, HI.out t1 (A2, g1.vs.length + 1, c2) _ ?_⟩
 have F := HFin.out
 have e1 := HE1.out
 have e2 := HE2.out
 clear HFin HI HE1 HE2 HJ1 HJ2 HJ3 HJ4 HG2 HV3 HUU
 subst e1 e2
 exact F
end Go.Proofs.YtamfkglnejhjdaaDoor.PlayState
namespace Go.Proofs.YtamfkglnejhjdaaDoor.PlayState
open Go.Proofs.YtamfkglnejhjdaaDoorW.PrintLast (sI sZ sC)
open Go.RowKit Go.Proofs.YtamfkglnejhjdaaDoorW.PrintWords Go.Proofs.YtamfkglnejhjdaaDoor.Fam Go.Proofs.YtamfkglnejhjdaaDoor.Play
set_option linter.unusedVariables false
def mgs (l : List Mg) : List (Int × Int × Int) := l.map (fun m : Mg => ((m.1 : Int), (m.2.1 : Int), (m.2.2 : Int)))
structure Rep0 (F : List Int → Int) (s : St (List Int)) (g : Gh) : Prop where
 vs : g.vs = s.views.map F
 rs : g.rs.map (·.2) = s.up.reverse.map ints ++ [ints s.cur]
 sp : g.sp.2 = ints s.spawns.reverse
 ps : g.ps = s.picks
 ms : g.ms = mgs s.merges
structure Rep (F : List Int → Int) (s : St (List Int)) (g : Gh) : Prop extends Rep0 F s g where
 oh : g.oh = g.rs.map (·.1)
section
variable {F : List Int → Int} {s : St (List Int)} {g : Gh}
theorem Rep0.views_len (h : Rep0 F s g) : g.vs.length = s.views.length := by rw [h.vs, List.length_map]
theorem Rep0.rows_len (h : Rep0 F s g) : g.rs.length = s.up.length + 1 := by
 have := congrArg List.length h.rs
 simpa using this
theorem Rep0.last (h : Rep0 F s g) : ∃ (rs : List Hd) (c : Hd), g.rs = rs ++ [c] ∧ c.2 = ints s.cur ∧ rs.map (·.2) = s.up.reverse.map ints ∧ rs.length = s.up.length := by
 have hl := h.rows_len
 have hne : g.rs ≠ [] := fun e => by rw [e] at hl; simp at hl
 refine ⟨g.rs.dropLast, g.rs.getLast hne, (List.dropLast_concat_getLast hne).symm, ?_, ?_, by rw [List.length_dropLast]; omega⟩
 ·have e := h.rs
  rw [← List.dropLast_concat_getLast hne, List.map_append] at e
  have := List.append_inj' e rfl
  simpa using this.2
 ·have e := h.rs
  rw [← List.dropLast_concat_getLast hne, List.map_append] at e
  exact (List.append_inj' e rfl).1
theorem Rep0.view (h : Rep0 F s g) {i : Nat} (hi : i < s.views.length) : g.vs.getD i 0 = F (s.views.getD i []) := by
 rw [h.vs]; simp [List.getD_eq_getElem?_getD, hi]
end
end Go.Proofs.YtamfkglnejhjdaaDoor.PlayState
namespace Go.Proofs.YtamfkglnejhjdaaDoor.PlayState
open Go.Proofs.YtamfkglnejhjdaaDoorW.PrintLast (sI sZ sC)
open Go.RowKit Go.Proofs.YtamfkglnejhjdaaDoorW.PrintWords Go.Proofs.YtamfkglnejhjdaaDoorW.PrintLast Go.Proofs.YtamfkglnejhjdaaDoorW.PrintMore Go.Proofs.YtamfkglnejhjdaaDoor.Fam Go.Proofs.YtamfkglnejhjdaaDoor.Play
set_option linter.unusedVariables false
theorem info103 : (Tryd.prog.info? 103).map (fun i => (i.zero, i.size, i.bytes)) = some (some (.agg #[.int .i64 0, .int .i64 0, .int .i64 0]), 3, 24) := by kernel_rfl
section
variable {w0 w w1 : World} {gp : Nat} {f : List Value} {g : Gh}
theorem PS.row_cut (h : PS w0 w gp f g) {rs : List Hd} {c : Hd} (hr : g.rs = rs ++ [c]) {ok : Nat → Prop} {t1 : Sl} {xs1 : List Int}
  (ho : Kd.R (Kd.int .i64) 3 w1 w0.heap.size ok (slv t1) xs1) (hb : Below w0.heap.size w0 w1) (hg : w.grownBy w1 (slv c.1).ownBlock) (hat : (slv t1).ownBlock = (slv c.1).ownBlock ∨ ∃ b, (slv t1).ownBlock = some b ∧ w.heap.size ≤ b) :
  PS w0 w1 gp f { g with rs := rs ++ [(t1, xs1)] } := by
 have hq : (g.rs.map hv ++ [hv g.sp])[rs.length]? = some (slv c.1, c.2) := by
  rw [hr, List.map_append, List.append_assoc, List.getElem?_append_right (by simp)]
  simp [hv]
 have hmem : (slv c.1, c.2) ∈ g.rs.map hv ++ [hv g.sp] := List.mem_iff_getElem?.2 ⟨_, hq⟩
 have ty : ∀ {e : Nat}, e ≠ 3 → ∀ b, (slv c.1).ownBlock = some b → ∃ cells t, w.heap[b]? = some (.cells cells t (0, 0)) ∧ e ≠ t := fun he b hb => by
  obtain ⟨cells, t, h1, rfl⟩ := h.typed3 hmem b hb
  exact ⟨cells, _, h1, he⟩
 have bp := (h.stays3 hmem hg h.bp (by decide)).trans h.bp
 have f3 := fam_grew (h1 := fun _ => rfl) h.f3 rs.length hq ho hg hat
 refine ⟨hb, bp, h.gep, fam_grown h.f2 hg (ty (by decide)), ?_, fam_grown h.f24 hg (ty (by decide)), mg_grown h.mg k3_E hg (ty (by decide)), h.pk⟩
 rw [show (g.rs.map hv ++ [hv g.sp]).set rs.length (slv t1, xs1) = (rs ++ [(t1, xs1)]).map hv ++ [hv g.sp] from by
  rw [hr, List.map_append, List.append_assoc, List.set_append_right _ _ (by simp)]
  simp [hv]] at f3
 exact f3
theorem PS.row_put (h : PS w0 w gp f g) {os : List Sl} {o : Sl} (hoh : g.oh = os ++ [o]) {gr n cr : Nat} (hro : g.ro = (some ⟨gr, 0, none⟩, n, cr)) (t1 : Sl) :
  PS w0 (w.setCell ⟨gr, os.length, none⟩ (slv t1)) gp f { g with oh := os ++ [t1] } := by
 have f24 := h.f24
 rw [show slv g.ro = .slice (some ⟨gr, 0, none⟩) n cr from by rw [hro]; rfl] at f24
 have f24' := fam_wrote (h1 := slv_one) f24 0 rfl os.length t1
 have hbase : w0.heap.size ≤ gr ∧ gr < w.heap.size := f24.lt (List.mem_cons_self ..) rfl
 obtain ⟨cells24, h24⟩ := own_typed (f24.own _ (List.mem_cons_self ..)) gr rfl
 have keep : ∀ b, b < w.heap.size → b ≠ gr → (w.setCell ⟨gr, os.length, none⟩ (slv t1)).heap[b]? = w.heap[b]? := fun b hb hn =>
  ((Kept.refl w (fun k => k = gr)).setCell (p := ⟨gr, os.length, none⟩) (.inl rfl) (slv t1)).2 b hb hn
 have n1 : gp ≠ gr := blk_ne h.bp h24 (by decide)
 refine ⟨h.hb.setCell (p := ⟨gr, os.length, none⟩) hbase.1 _, (keep gp (blk_lt h.bp) n1).trans h.bp, h.gep, h.f2.far h24 (by decide) keep, h.f3.far h24 (by decide) keep, ?_, ?_, h.pk⟩
 ·simp only [List.set_cons_zero] at f24'
  rw [show slv ({ g with oh := os ++ [t1] } : Gh).ro = .slice (some ⟨gr, 0, none⟩) n cr from by show slv g.ro = _; rw [hro]; rfl]
  show Fam slv 24 _ _ [(_, os ++ [t1])]
  rw [hoh, List.set_append_right _ _ (Nat.le_refl _), Nat.sub_self] at f24'
  exact f24'
 ·exact mg_grown h.mg k3_E (row := some gr) ⟨rfl, rfl, rfl, by simp, fun b hb hn => keep b hb (fun e => hn (by rw [e]))⟩ (fun b hb => by injection hb with hb; subst hb; exact ⟨_, _, h24, by decide⟩)
theorem PS.typed103 (h : PS w0 w gp f g) : ∀ b, (slv g.mo).ownBlock = some b → ∃ cells, w.heap[b]? = some (.cells cells 103 (0, 0)) := Kd.R_typed h.mg
theorem PS.stays103 (h : PS w0 w gp f g) (hg : w.grownBy w1 (slv g.mo).ownBlock) {b t : Nat} {cs : Array Value} (h1 : w.heap[b]? = some (.cells cs t (0, 0))) (ht : t ≠ 103) : w1.heap[b]? = w.heap[b]? := by
 refine hg.block b (blk_lt h1) (fun e => ?_)
 obtain ⟨cells, h2⟩ := h.typed103 b e.symm
 rw [h1] at h2
 injection h2 with h2
 injection h2 with _ h2
 exact ht h2
theorem PS.told (h : PS w0 w gp f g) (hf : f.length = 4) {ok : Nat → Prop} {t1 : Sl} {ms1 : List (Int × Int × Int)}
  (ho : Kd.R k3 103 w1 w0.heap.size ok (slv t1) ms1) (hb : Below w0.heap.size w0 w1) (hg : w.grownBy w1 (slv g.mo).ownBlock) :
  PS w0 (w1.setCell ⟨gp, 8, none⟩ (slv t1)) gp f { g with ms := ms1, mo := t1 } := by
 have ty : ∀ {e : Nat}, e ≠ 103 → ∀ b, (slv g.mo).ownBlock = some b → ∃ cells t, w.heap[b]? = some (.cells cells t (0, 0)) ∧ e ≠ t := fun he b hb => by
  obtain ⟨cells, h1⟩ := h.typed103 b hb
  exact ⟨cells, _, h1, he⟩
 have bp := (h.stays103 hg h.bp (by decide)).trans h.bp
 have f2 := fam_grown h.f2 hg (ty (by decide))
 have f3 := fam_grown h.f3 hg (ty (by decide))
 have f24 := fam_grown h.f24 hg (ty (by decide))
 have keep : ∀ b, b < w1.heap.size → b ≠ gp → (w1.setCell ⟨gp, 8, none⟩ (slv t1)).heap[b]? = w1.heap[b]? := fun b hb hn =>
  ((Kept.refl w1 (fun k => k = gp)).setCell (p := ⟨gp, 8, none⟩) (.inl rfl) (slv t1)).2 b hb hn
 refine ⟨hb.setCell (p := ⟨gp, 8, none⟩) h.gep _, ?_, h.gep, f2.far bp (by decide) keep, f3.far bp (by decide) keep, f24.far bp (by decide) keep, ?_, h.pk⟩
 ·obtain ⟨a, b, c', d, rfl⟩ : ∃ a b c' d, f = [a, b, c', d] := by
   match f, hf with
   | [a, b, c', d], _ => exact ⟨a, b, c', d, rfl⟩
  exact blk_put bp 8 _ rfl
 ·exact mg_grown (Kd.R_mono ho (fun _ _ => trivial)) k3_E (row := some gp) ⟨rfl, rfl, rfl, by simp, fun b hb hn => keep b hb (fun e => hn (by rw [e]))⟩ (fun b hb => by injection hb with hb; subst hb; exact ⟨_, _, bp, by decide⟩)
end
structure ML (F : List Int → Int) (w0 w : World) (gp : Nat) (f : List Value) (t : Nat) (pre : List Nat) (L : List Int) (s0 s : St (List Int)) (g : Gh) (rs : List Hd) (ro : Sl) (oh : List Sl) (tr : Sl) (V M : Nat) : Prop where
 ps : PS w0 w gp f g
 rep : Rep0 F s g
 hrs : g.rs = rs ++ [(tr, ints s.cur)]
 hro : g.ro = ro
 hoh : g.oh = oh
 mi : MI pre s.cur s.views L
 go : s.merge red t = s0.merge red t
 hV : s.views.length ≤ V
 hM : s.merges.length + s.cur.length ≤ M
end Go.Proofs.YtamfkglnejhjdaaDoor.PlayState

namespace Go.Proofs.YtamfkglnejhjdaaDoor.PlayState
open Go.Proofs.YtamfkglnejhjdaaDoorW.PrintLast (sI sZ sC)
open Go.RowKit Go.Proofs.YtamfkglnejhjdaaDoorW.PrintWords
set_option linter.unusedVariables false
set_option maxHeartbeats 2000000 in
set_option maxRecDepth 100000 in
theorem mod_calls (x : Int) (n : Nat) (hn : 0 < n) (hn2 : n ≤ 4194304) (w : World) :
  Calls Tryd.prog 58 #[.int .i64 x, .int .i64 (n : Int)] w fun e w' => e = .returned (.int .i64 (x % (n : Int))) ∧ Drawn0 w w' := by
 have h1 := Int.emod_nonneg x (show (n : Int) ≠ 0 by omega)
 have h2 := Int.emod_lt_of_pos x (show (0 : Int) < (n : Int) by omega)
 have h3 : ((n : Int)).natAbs = n := by omega
 have ht := Int.tmod_eq_emod (a := x) (b := (n : Int))
 have HL := Aside0.mk h1
 have HU := Aside0.mk h2
 have c3 : decide ((n : Int) < 1) = false := decide_eq_false (by omega)
 have c4 : ((n : Int) == 0) = false := beq_eq_false_iff_ne.mpr (by omega)
 have c5 : ((n : Int) != 0) = true := bne_iff_ne.mpr (by omega)
 by_cases hc : 0 ≤ x ∨ (n : Int) ∣ x
 ·rw [if_pos hc] at ht
  have HR := Aside0.mk (show x.tmod (n : Int) = x % (n : Int) by omega)
  have c6 : decide (x.tmod (n : Int) < 0) = false := decide_eq_false (by omega)
  clear ht h1 h2 h3 hc
  go_enter Tryd.func58, Tryd.ntmps58
  go_wp2
  go_ret
  exact ⟨by rw [← HR.out]; rfl, by repeat (first | exact Drawn0.refl _ | apply Drawn0.step)⟩
 ·rw [if_neg hc, h3] at ht
  have HR := Aside0.mk (show wrap64 (x.tmod (n : Int) + (n : Int)) = x % (n : Int) by rw [BitMath.wrap_id (by unfold BitMath.In64; omega)]; omega)
  have c6 : decide (x.tmod (n : Int) < 0) = true := decide_eq_true (by omega)
  clear ht h1 h2 h3 hc
  go_enter Tryd.func58, Tryd.ntmps58
  go_wp2
  go_ret
  exact ⟨by rw [← HR.out]; rfl, by repeat (first | exact Drawn0.refl _ | apply Drawn0.step)⟩
end Go.Proofs.YtamfkglnejhjdaaDoor.PlayState
namespace Go.Proofs.YtamfkglnejhjdaaDoor.PlayState
open Go.Proofs.YtamfkglnejhjdaaDoorW.PrintLast (pS tS lb sI sZ sC)
open Go.Proofs.YtamfkglnejhjdaaDoor.Play
theorem MI_mem {pre row : List Nat} {vs : List (List Int)} {L : List Int} (h : MI pre row vs L) {j : Nat} (hj : j < row.length) {y : Int} (hy : y ∈ vs.getD (row.getD j 0) []) : y ∈ L := by
 have hm : row.getD j 0 ∈ pre ++ row := List.mem_append_right _ (by rw [List.getD_eq_getElem?_getD, List.getElem?_eq_getElem hj]; exact List.getElem_mem hj)
 obtain ⟨A, B, e⟩ := List.append_of_mem hm
 have hv := h.value
 rw [e, flat_append, flat_cons] at hv
 rw [← hv]
 exact List.mem_append_right _ (List.mem_append_left _ hy)

end Go.Proofs.YtamfkglnejhjdaaDoor.PlayState
namespace Go.Proofs.YtamfkglnejhjdaaDoor.PlayState
open Go.Proofs.YtamfkglnejhjdaaDoorW.PrintLast (pS tS lb sI sZ sC)
open Go.Proofs.YtamfkglnejhjdaaDoor.PHyperFold (info3)
open Go.RowKit Go.Proofs.YtamfkglnejhjdaaDoorW.PrintWords Go.Proofs.YtamfkglnejhjdaaDoorW.PrintLast Go.Proofs.YtamfkglnejhjdaaDoorW.PrintMore Go.Proofs.YtamfkglnejhjdaaDoor.Fam Go.Proofs.YtamfkglnejhjdaaDoor.Play
set_option linter.unusedSimpArgs false
set_option linter.unusedVariables false

def M43a : Bool × List (List Nat × List Nat) := (true, [([], []), ([], []), ([0, 1], [0, 1]), ([2], [2]), ([], []), ([], []), ([5], [5]), ([4, 6], [4, 6]), ([7], [7]), ([3, 0, 1, 2, 3], [3]), ([8, 9, 0, 1, 2, 3, 4, 5, 6, 7, 8, 9], [8])])
def M43aB : List Nat := [0, 0, 3, 7, 0, 0, 32, 112, 240, 15, 1023]
theorem M43a_tab : rtab .any (opsOf Tryd.f43 6) = M43a := by kernel_rfl
theorem M43a_bits : waitsOk M43a.2 M43aB = true := by kernel_rfl
def M43b : Bool × List (List Nat × List Nat) := (true, [([], []), ([0], [0]), ([1], [1]), ([2], [2]), ([], []), ([], []), ([5], [5]), ([6], [6]), ([7], [7]), ([8], [8]), ([], []), ([10], [10]), ([11], [11]), ([12], [12]), ([], []), ([13, 14], [13, 14]), ([15], [15]), ([], []), ([17], [17]), ([18], [18]), ([19], [19]), ([], []), ([20, 21], [20, 21]), ([22], [22]), ([9, 16, 23], [9, 16, 23]), ([3, 4, 0, 1, 2, 3, 4, 5, 6, 7, 8, 9, 10, 11, 12, 13, 14, 15, 16, 17, 18, 19, 20, 21, 22, 23, 24], [3, 4]), ([25, 24, 24, 0, 1, 2, 3, 4, 5, 6, 7, 8, 9, 10, 11, 12, 13, 14, 15, 16, 17, 18, 19, 20, 21, 22, 23, 24], [24, 25])])
def M43bB : List Nat := [0, 1, 3, 7, 0, 0, 32, 96, 224, 480, 0, 1024, 3072, 7168, 0, 31744, 64512, 0, 131072, 393216, 917504, 0, 4063232, 8257536, 16777184, 33554431, 67108863]
theorem M43b_tab : rtab .any (opsOf Tryd.f43 7) = M43b := by kernel_rfl
theorem M43b_bits : waitsOk M43b.2 M43bB = true := by kernel_rfl
def M43c : Bool × List (List Nat × List Nat) := (true, [([], []), ([], []), ([1], [1]), ([0, 2], [0, 2]), ([], []), ([], []), ([5], [5]), ([4, 6], [4, 6]), ([3, 7], [3, 7]), ([8, 8, 0, 1, 2, 3, 4, 5, 6, 7, 8], [0, 4, 8])])
def M43cB : List Nat := [0, 0, 2, 7, 0, 0, 32, 112, 255, 511]
theorem M43c_tab : rtab .any (opsOf Tryd.f43 9) = M43c := by kernel_rfl
theorem M43c_bits : waitsOk M43c.2 M43cB = true := by kernel_rfl

theorem mod_pick (ps : List Int) (m : Nat) (hm : 0 < m) (hm2 : m ≤ 4194304) (x y : Int) (hx : x = ps.headD 0) (hy : y = (m : Int)) (w : World) :
  Calls Tryd.prog 58 #[.int .i64 x, .int .i64 y] w fun e w' => e = .returned (.int .i64 ((pickOf ps m : Nat) : Int)) ∧ Drawn0 w w' := by
 subst hx hy
 have h1 := Int.emod_nonneg (ps.headD 0) (show (m : Int) ≠ 0 by omega)
 have e : ((pickOf ps m : Nat) : Int) = ps.headD 0 % (m : Int) := by unfold pickOf; omega
 rw [e]
 exact mod_calls _ m hm hm2 w
theorem ML.step {F : List Int → Int} {w0 w wn : World} {gp : Nat} {f : List Value} {t : Nat} {pre : List Nat} {L : List Int} {s0 s : St (List Int)} {g : Gh} {rs : List Hd} {ro : Sl} {oh : List Sl} {tr : Sl} {V M : Nat} (h : ML F w0 w gp f t pre L s0 s g rs ro oh tr V M)
  {n j xa xb : Nat} {ya yb : List Int} (hn : s.cur.length = n) (h1n : 1 < n) (hj : j = pickOf s.picks (n - 1)) (hxa : xa = s.cur.getD j 0) (hxb : xb = s.cur.getD (j + 1) 0) (hya : ya = s.views.getD xa []) (hyb : yb = s.views.getD xb []) (hjl : j + 1 < n) {fab : Int} (hfab : fab = F (ya ++ yb)) {po mo tr1 : Sl}
  (hps : PS w0 wn gp f { g with ps := g.ps.tail, po := po, vs := g.vs.set xa fab, ms := g.ms ++ [((t : Int), (xa : Int), (xb : Int))], mo := mo, rs := rs ++ [(tr1, (ints s.cur).eraseIdx (j + 1))] }) :
  ML F w0 wn gp f t pre L s0 (mstep t s) { g with ps := g.ps.tail, po := po, vs := g.vs.set xa fab, ms := g.ms ++ [((t : Int), (xa : Int), (xb : Int))], mo := mo, rs := rs ++ [(tr1, (ints s.cur).eraseIdx (j + 1))] } rs ro oh tr1 V M := by
 have e1 : (mstep t s).cur = s.cur.eraseIdx (j + 1) := by show s.cur.eraseIdx _ = _; rw [hn, ← hj]
 have e2 : (mstep t s).views = s.views.set xa (red.join (s.views.getD xa red.fresh) (s.views.getD xb red.fresh)) := by show s.views.set _ _ = _; rw [hn, ← hj, ← hxa, ← hxb]
 have e3 : (mstep t s).merges = s.merges ++ [(t, xa, xb)] := by show s.merges ++ _ = _; rw [hn, ← hj, ← hxa, ← hxb]
 have hr := h.rep.rs
 rw [h.hrs, List.map_append] at hr
 have hr2 := (List.append_inj' hr rfl).1
 refine ⟨hps, ⟨?_, ?_, h.rep.sp, ?_, ?_⟩, ?_, h.hro, h.hoh, ?_, ?_, ?_, ?_⟩
 ·show g.vs.set xa fab = _
  rw [e2, List.map_set, h.rep.vs, hfab, hya, hyb]
  rfl
 ·show (rs ++ [(tr1, (ints s.cur).eraseIdx (j + 1))]).map (·.2) = _
  rw [List.map_append, hr2, e1, ints_erase]
  rfl
 ·show g.ps.tail = s.picks.tail
  rw [h.rep.ps]
 ·show g.ms ++ _ = _
  rw [e3, h.rep.ms]
  simp [mgs]
 ·rw [e1, ints_erase]
 ·rw [e1, e2, hxa, hxb]
  exact h.mi.step (by omega)
 ·rw [mstep_merge t s (by omega)]
  exact h.go
 ·rw [e2, List.length_set]
  exact h.hV
 ·have := h.hM
  rw [e1, e3, List.length_append, List.length_eraseIdx_of_lt (by omega)]
  simp only [List.length_singleton]
  omega
theorem info3s : (Tryd.prog.info? 3).map (·.size) = some (Kd.int .i64).sz := by kernel_rfl

set_option maxHeartbeats 16000000 in
set_option maxRecDepth 100000 in
theorem merge_walk {F : List Int → Int} {gO : Nat} {X : Int → Prop} {w0 w : World} {gp : Nat} {f : List Value} (t : Nat) (pre : List Nat) (L : List Int) (s0 : St (List Int)) (g0 : Gh) (rs : List Hd) (gr k cr : Nat) (oh : List Sl) (o : Sl) (tr : Sl) (V M : Nat)
  (hf : f.length = 4) (hjoin : f[2]? = some (.func (.func 20) #[] #[.pointer (some ⟨gO, 0, none⟩)])) (hJoin : ∀ w' a b, Below w0.heap.size w0 w' → (∀ y, y ∈ a → X y) → (∀ y, y ∈ b → X y) → Calls Tryd.prog 20 #[.int .i64 (F a), .int .i64 (F b), .pointer (some ⟨gO, 0, none⟩)] w' fun e w'' => e = .returned (.int .i64 (F (a ++ b))) ∧ Below w'.heap.size w' w'') (hX : ∀ y, y ∈ L → X y) (hml : ML F w0 w gp f t pre L s0 s0 g0 rs (some ⟨gr, 0, none⟩, k + 1, cr) (oh ++ [o]) tr V M) (hok : o = tr) (hk : oh.length = k) (hk2 : k ≤ 4194304) (hL : L.length ≤ 2097152) (hV : V ≤ 4194304) (hM : M ≤ 2097152) (hn0 : s0.cur.length = tr.2.1) (Pst : World → Prop)
  (hP : ∀ w' s g tr', ML F w0 w' gp f t pre L s0 s g rs (some ⟨gr, 0, none⟩, k + 1, cr) (oh ++ [tr']) tr' V M → s.cur.length ≤ 1 → Pst w') :
  Calls Tryd.prog 43 #[.pointer (some ⟨gp, 0, none⟩), .int .i64 (t : Int)] w fun e w' => e = .returned (.tuple #[]) ∧ Pst w' := by
 obtain ⟨trA, trn, trc⟩ := tr
 have hOut : ∀ (w' : World) (s : St (List Int)) (g : Gh) (tr' : Sl) (o' : Sl), ML F w0 w' gp f t pre L s0 s g rs (some ⟨gr, 0, none⟩, k + 1, cr) (oh ++ [o']) tr' V M → w'.cell? ⟨gp, 5, none⟩ = some (.slice (some ⟨gr, 0, none⟩) (k + 1) cr) ∧ w'.cell? ⟨gr, k, none⟩ = some (slv o') ∧ w'.frozen? ⟨gr, k, none⟩ = false := fun w' s g tr' o' h => by
  have h1 := (h.ps.cell hf).2.1
  rw [h.hro] at h1
  obtain ⟨g2, c2, e1, hx, hfz⟩ := fam_at (h1 := slv_one) h.ps.f24 0 rfl (none, 0, 0) k (by rw [h.hoh, List.length_append, hk]; simp)
  have e2 := slv_form e1
  rw [h.hro] at e2
  obtain rfl : gr = g2 := by injection e2 with e2; injection e2 with e2; injection e2
  rw [h.hoh, show (oh ++ [o']).getD k (none, 0, 0) = o' from by rw [List.getD_eq_getElem?_getD, List.getElem?_append_right (by omega)]; simp [hk]] at hx
  exact ⟨h1, hx, hfz⟩
 obtain ⟨hx5, hxr, _⟩ := hOut w s0 g0 _ _ hml
 subst hok
 replace hxr : w.cell? ⟨gr, k, none⟩ = some (.slice trA trn trc) := hxr
 replace hn0 : s0.cur.length = trn := hn0
 have hk3 : (k : Int) ≤ 4194304 := by omega
 have hw1 : wrap64 ((k : Int) + 1 - 1) = (k : Int) := by rw [BitMath.wrap_id (by unfold BitMath.In64; omega)]; omega
 have hw3 : wrap64 (k : Int) = (k : Int) := BitMath.wrap_id (by unfold BitMath.In64; omega)
 have l1 : ((k : Int) < (k : Int) + 1) = True := eq_true (by omega)
 have HML := Aside0.mk hml
 have HJoin := Aside0.mk hJoin
 have HX := Aside0.mk hX
 have HOut := Aside0.mk hOut
 have HP := Aside0.mk hP
 have HJn := Aside0.mk hjoin
 have HK := Aside0.mk hk
 have HN0 := Aside0.mk hn0
 have HL := Aside0.mk (And.intro hL (And.intro hV hM))
 have hnb : (trn : Int) ≤ 4194304 := by have := hml.hM; omega
 clear hml hOut hP hjoin hk hn0 hL hV hM hJoin hX
 go_enter Tryd.func43, Tryd.ntmps43
 go_wp2
 go_loopw [5, 6] (fun v5 v6 w' => ∃ (A : Option Addr) (n c : Nat), v5 = .slice A n c ∧ v6 = .int .i64 (n : Int) ∧ (n : Int) ≤ 4194304 ∧ Aside0 (∃ s g, s.cur.length = n ∧ ML F w0 w' gp f t pre L s0 s g rs (some ⟨gr, 0, none⟩, k + 1, cr) (oh ++ [(trA, trn, trc)]) (A, n, c) V M)) (fun _ v6 _ => (intOf v6).toNat)
 case atStart => exact ⟨trA, trn, trc, rfl, by go_num, hnb, ⟨⟨s0, g0, HN0.out, HML.out⟩⟩⟩
 case round =>
  clear HML hx5 hxr hnb hw1 hw3
  obtain ⟨A, n, c, rfl, rfl, hnb, HS⟩ := hrel
  by_cases hn : 1 < n
  ·obtain ⟨s, g, hsn, hml⟩ := HS.out
   clear HS
   have hd2 : decide ((1 : Int) < (n : Int)) = true := decide_eq_true (by omega)
   obtain ⟨j, hj⟩ : ∃ j, j = pickOf s.picks (n - 1) := ⟨_, rfl⟩
   have hjl : j + 1 < n := by
    have := pick_lt s.picks (n - 2)
    rw [show n - 2 + 1 = n - 1 from by omega] at this
    omega
   obtain ⟨xa, hxa⟩ : ∃ x, x = s.cur.getD j 0 := ⟨_, rfl⟩
   obtain ⟨xb, hxb⟩ : ∃ x, x = s.cur.getD (j + 1) 0 := ⟨_, rfl⟩
   have hla : xa < s.views.length := by rw [hxa]; exact hml.mi.lt (by omega)
   have hlb : xb < s.views.length := by rw [hxb]; exact hml.mi.lt (by omega)
   obtain ⟨ya, hya⟩ : ∃ y, y = s.views.getD xa [] := ⟨_, rfl⟩
   obtain ⟨yb, hyb⟩ : ∃ y, y = s.views.getD xb [] := ⟨_, rfl⟩
   obtain ⟨fa, hfa⟩ : ∃ x, x = F ya := ⟨_, rfl⟩
   obtain ⟨fb, hfb⟩ : ∃ x, x = F yb := ⟨_, rfl⟩
   obtain ⟨fab, hfab⟩ : ∃ x, x = F (ya ++ yb) := ⟨_, rfl⟩
   have hva : g.vs.getD xa 0 = fa := by rw [hml.rep.view hla, ← hya, hfa]
   have hvb : g.vs.getD xb 0 = fb := by rw [hml.rep.view hlb, ← hyb, hfb]
   have HXa := Aside0.mk (show ∀ y, y ∈ ya → X y from fun y hy => HX.out y (MI_mem hml.mi (j := j) (by omega) (by rw [← hxa, ← hya]; exact hy)))
   have HXb := Aside0.mk (show ∀ y, y ∈ yb → X y from fun y hy => HX.out y (MI_mem hml.mi (j := j + 1) (by omega) (by rw [← hxb, ← hyb]; exact hy)))
   have hmem : (slv (A, n, c), ints s.cur) ∈ g.rs.map hv ++ [hv g.sp] := by rw [hml.hrs]; simp [hv]
   obtain ⟨gi, hgi⟩ : ∃ gi, A = some ⟨gi, 0, none⟩ := by
    obtain ⟨g2, c2, e1, _⟩ := Kd.R_form (Fam.R (h1 := fun _ => rfl) hml.ps.f3 hmem) (by rw [ints_length, hsn]; omega)
    exact ⟨g2, by have := slv_form e1; injection this⟩
   subst hgi
   have hnc : n ≤ c := (Kd.R_reads' (Fam.R (h1 := fun _ => rfl) hml.ps.f3 hmem)).2.1
   obtain ⟨x, hx⟩ : ∃ x, x = g.ps.headD 0 := ⟨_, rfl⟩
   have hps : g.ps = s.picks := hml.rep.ps
   have HPk := pick_calls hml.ps hf
   rw [← hx] at HPk
   have HPK := Aside0.mk HPk
   have HMd := Aside0.mk (fun w y hy => mod_pick s.picks (n - 1) (by omega) (by omega) x y (by rw [hx, hps]) hy w)
   obtain ⟨vn, hvn⟩ : ∃ vn, vn = s.views.length := ⟨_, rfl⟩
   obtain ⟨gv, vc, hgv⟩ : ∃ gv vc, g.vo = (some ⟨gv, 0, none⟩, vn, vc) := by
    obtain ⟨g2, c2, e1, _, _⟩ := fam_at (h1 := fun _ => rfl) hml.ps.f2 0 rfl 0 xa (by rw [hml.rep.views_len]; exact hla)
    have e2 := slv_form e1
    rw [hml.rep.views_len, ← hvn] at e2
    exact ⟨g2, c2, e2⟩
   have HMl := Aside0.mk hml
   have HSN := Aside0.mk hsn
   have HJJ := Aside0.mk hj
   have HXX := Aside0.mk (And.intro hxa hxb)
   have HLL := Aside0.mk (And.intro hla hlb)
   have HFab := Aside0.mk hfab
   have HV := Aside0.mk (And.intro hva hvb)
   have HY := Aside0.mk (And.intro hya hyb)
   have HMem := Aside0.mk hmem
   have HGV := Aside0.mk hgv
   have hf2 : f[2]? = some (.func (.func 20) #[] #[.pointer (some ⟨gO, 0, none⟩)]) := HJn.out
   have e4 : ∀ (g' : Gh), (cells f g')[2]? = some (.func (.func 20) #[] #[.pointer (some ⟨gO, 0, none⟩)]) := fun g' => by
    obtain ⟨a, b, c', d, rfl⟩ : ∃ a b c' d, f = [a, b, c', d] := by
     match f, hf with
     | [a, b, c', d], _ => exact ⟨a, b, c', d, rfl⟩
    simpa [cells] using hf2
   have hC6 : ∀ (g' : Gh), g'.rs = g.rs → g'.sp = g.sp → ∀ w', PS w0 w' gp f g' → w'.cell? ⟨gi, j, none⟩ = some (.int .i64 (xa : Int)) ∧ w'.cell? ⟨gi, j + 1, none⟩ = some (.int .i64 (xb : Int)) := fun g' e1 e2 w' h => by
    have hq : (slv (some ⟨gi, 0, none⟩, n, c), ints s.cur) ∈ g'.rs.map hv ++ [hv g'.sp] := by rw [e1, e2]; exact hmem
    obtain ⟨i, hi⟩ := List.mem_iff_getElem?.1 hq
    have hl : (ints s.cur).length = n := by rw [ints_length]; exact hsn
    obtain ⟨g2, c2, e5, h5, _⟩ := fam_at (h1 := fun _ => rfl) h.f3 i hi 0 j (by omega)
    obtain ⟨g3, c3, e6, h6, _⟩ := fam_at (h1 := fun _ => rfl) h.f3 i hi 0 (j + 1) (by omega)
    have e5' := slv_form e5
    have e6' := slv_form e6
    injection e5' with e5' _
    injection e5' with e5'
    injection e5' with e5'
    injection e6' with e6' _
    injection e6' with e6'
    injection e6' with e6'
    subst e5' e6'
    rw [ints_getD, ← hxa] at h5
    rw [ints_getD, ← hxb] at h6
    exact ⟨h5, h6⟩
   have hC7 : ∀ (g' : Gh), g'.vs = g.vs → g'.vo = g.vo → ∀ w', PS w0 w' gp f g' → (w'.cell? ⟨gp, 4, none⟩ = some (.slice (some ⟨gv, 0, none⟩) vn vc) ∧ w'.cell? ⟨gp, 2, none⟩ = some (.func (.func 20) #[] #[.pointer (some ⟨gO, 0, none⟩)]) ∧ w'.cell? ⟨gv, xa, none⟩ = some (.int .i64 fa) ∧ w'.cell? ⟨gv, xb, none⟩ = some (.int .i64 fb)) ∧ w'.frozen? ⟨gv, xa, none⟩ = false := fun g' e1 e2 w' h => by
    have h1 := (h.cell hf).1
    rw [e2, hgv] at h1
    have hq : ∀ i, i < g.vs.length → w'.cell? ⟨gv, i, none⟩ = some (.int .i64 (g.vs.getD i 0)) ∧ w'.frozen? ⟨gv, i, none⟩ = false := fun i hlt => by
     obtain ⟨g2, c2, e5, h5, h6⟩ := fam_at (h1 := fun _ => rfl) h.f2 0 rfl 0 i (by rw [e1]; exact hlt)
     have e6 := slv_form e5
     rw [e2, hgv] at e6
     injection e6 with e6 _
     injection e6 with e6
     injection e6 with e6
     subst e6
     rw [h5, e1]
     exact ⟨rfl, h6⟩
    have qa := hq xa (by rw [hml.rep.views_len]; exact hla)
    have qb := hq xb (by rw [hml.rep.views_len]; exact hlb)
    rw [hva] at qa
    rw [hvb] at qb
    exact ⟨⟨h1, (blk_cell h.bp 2).trans (e4 g'), qa.1, qb.1⟩, qa.2⟩
   have hJ : ∀ w', Below w0.heap.size w0 w' → Calls Tryd.prog 20 #[.int .i64 fa, .int .i64 fb, .pointer (some ⟨gO, 0, none⟩)] w' fun e w'' => e = .returned (.int .i64 fab) ∧ Below w'.heap.size w' w'' := fun w' hb => by
    rw [hfa, hfb, hfab]
    exact HJoin.out w' ya yb hb HXa.out HXb.out
   obtain ⟨⟨mA, mn, mc⟩, hmo⟩ : ∃ t : Sl, g.mo = t := ⟨_, rfl⟩
   have hC8 : ∀ (g' : Gh), g'.mo = g.mo → ∀ w', PS w0 w' gp f g' → w'.cell? ⟨gp, 8, none⟩ = some (.slice mA mn mc) ∧ w'.frozen? ⟨gp, 8, none⟩ = false := fun g' e1 w' h => by
    have h1 := (h.cell hf).2.2.2.2
    rw [e1, hmo] at h1
    exact ⟨h1, blk_frozen h.bp 8⟩
   have hS8 : ∀ (g' : Gh), g'.mo = g.mo → ∀ w' w1, PS w0 w' gp f g' → w'.grownBy w1 (Value.slice mA mn mc).ownBlock → w1.cell? ⟨gp, 8, none⟩ = some (.slice mA mn mc) ∧ w1.frozen? ⟨gp, 8, none⟩ = false := fun g' e1 w' w1 h hg => by
    have s1 := h.stays103 (by rw [e1, hmo]; exact hg) h.bp (by decide)
    have h1 := hC8 g' e1 w' h
    exact ⟨(World.cell?_of_block s1).trans h1.1, (World.frozen?_of_block s1).trans h1.2⟩
   have hR8 : ∀ (g' : Gh), g'.mo = g.mo → ∀ w', PS w0 w' gp f g' → Kd.R k3 103 w' w0.heap.size (fun _ => True) (.slice mA mn mc) g'.ms := fun g' e1 w' h => by
    have h1 := h.mg
    rw [e1, hmo] at h1
    exact h1
   have hR9 : ∀ (g' : Gh), g'.rs = g.rs → g'.sp = g.sp → ∀ w', PS w0 w' gp f g' → Kd.R (Kd.int .i64) 3 w' w0.heap.size (fun _ => True) (.slice (some ⟨gi, 0, none⟩) n c) (ints s.cur) := fun g' e1 e2 w' h => by
    have hq : (slv (some ⟨gi, 0, none⟩, n, c), ints s.cur) ∈ g'.rs.map hv ++ [hv g'.sp] := by rw [e1, e2]; exact hmem
    exact Kd.R_mono (Fam.R (h1 := fun _ => rfl) h.f3 hq) (fun _ _ => trivial)
   have HC6 := Aside0.mk hC6
   have HC7 := Aside0.mk hC7
   have HJ := Aside0.mk hJ
   have HC8 := Aside0.mk hC8
   have HS8 := Aside0.mk hS8
   have HR8 := Aside0.mk hR8
   have HR9 := Aside0.mk hR9
   have HMo := Aside0.mk hmo
   have HML2 := Aside0.mk (show g.ms.length ≤ 2097152 by have := hml.hM; have := HL.out.2.2; rw [hml.rep.ms]; simp only [mgs, List.length_map]; omega)
   have hj2 : (j : Int) ≤ 4194304 := by omega
   have hxa2 : (xa : Int) ≤ 4194304 := by have := hml.hV; have := HL.out.2.1; omega
   have hxb2 : (xb : Int) ≤ 4194304 := by have := hml.hV; have := HL.out.2.1; omega
   have lj1 : ((j : Int) < (n : Int)) = True := eq_true (by omega)
   have lj2 : ((j : Int) + 1 < (n : Int)) = True := eq_true (by omega)
   have lj3 : (0 ≤ (j : Int) + 1) = True := eq_true (by omega)
   have la1 : ((xa : Int) < (vn : Int)) = True := eq_true (by omega)
   have lb1 : ((xb : Int) < (vn : Int)) = True := eq_true (by omega)
   have tj1 : ((j : Int) + 1).toNat = j + 1 := by omega
   obtain ⟨i0, hi0, hz1⟩ : ∃ i, Tryd.prog.info? 3 = some i ∧ i.size = 1 := by
    have h := info3
    cases e : Tryd.prog.info? 3 with
    | none => rw [e] at h; cases h
    | some i => rw [e] at h; injection h with h; injection h with _ h; injection h with h _; exact ⟨i, rfl, h⟩
   have hsl1 := cut_to (P := Tryd.prog) 24 3 .i64 Tryd.underlying24 hi0 (some ⟨gi, 0, none⟩) n c ((j : Int) + 1) (by omega) (by omega) hnc
   rw [tj1] at hsl1
   obtain ⟨Q, hQ, hsl2⟩ : ∃ Q : Option Addr, (Q = if c = j + 1 + 1 then some ⟨gi, 0, none⟩ else (some (⟨gi, 0, none⟩ : Addr)).map (·.add ((j + 1 + 1) * (Kd.int .i64).sz))) ∧ ∀ W : World, (Instr.slice 24 (.slice (some ⟨gi, 0, none⟩) n c) (some (.int .i64 ((j : Int) + 2))) none none).run Tryd.prog W = .ok (.slice Q (n - (j + 1 + 1)) (c - (j + 1 + 1))) W := by
    refine ⟨_, rfl, fun W => ?_⟩
    have h := cut_from (P := Tryd.prog) 24 3 .i64 Tryd.underlying24 hi0 1 hz1 (some ⟨gi, 0, none⟩) n c ((j : Int) + 2) (by omega) (by omega) W
    rw [show ((j : Int) + 2).toNat = j + 1 + 1 from by omega] at h
    exact h
   have HQ := Aside0.mk hQ
   have HVn := Aside0.mk hvn
   have HWJ := Aside0.mk (And.intro (show wrap64 ((j : Int) + 1) = (j : Int) + 1 from wrap_add j 1 (by omega)) (And.intro (show wrap64 ((j : Int) + 2) = (j : Int) + 2 from wrap_add j 2 (by omega)) (And.intro lj3 tj1)))
   clear lj3 tj1
   clear hf2 e4 hC6 hC7 hJ hfa hfb hfab hC8 hS8 hR8 hR9 hmo hi0 hz1 hQ hvn
   clear hml hsn hj hxa hxb hla hlb hva hvb hya hyb hmem hps HPk hx hgv
   go_wp2_with fail
   refine HPK.out.mono ?_
   rintro e w1 ⟨rfl, po, hps⟩
   have HP1 := Aside0.mk hps
   clear hps
   go_wp2_with fail
   refine (HMd.out _ _ (by omega)).mono ?_
   rintro e w2 ⟨rfl, hdr⟩
   have HP2 := Aside0.mk (HP1.out.below hdr.below)
   clear hdr HP1 HMd HPK
   rw [← HJJ.out]
   go_upto_region 6 with fail
   obtain ⟨wj1, -, lj3, tj1⟩ := HWJ.out
   refine start_ (n := 11) (S := (fun w' => w'.cell? ⟨gi, j, none⟩ = some (.int .i64 (xa : Int)) ∧ w'.cell? ⟨gi, j + 1, none⟩ = some (.int .i64 (xb : Int)))) (ds := [10]) (lb 11 0) (by kernel_rfl) rfl rfl (HC6.out { g with ps := g.ps.tail, po := po } rfl rfl w2 HP2.out) (fun hHeld => ?_); refine with_tabW M43a_tab M43a_bits (fun HT_ HW_ => ?_)
   have HP3 := Aside0.mk (HP2.out.below (w1 := w2.drew) (Drawn0.below ⟨⟨1, rfl⟩⟩))
   clear HP2
   generalize w2.drew = w3 at HP3 hHeld ⊢
   refine pS 0 34 1 11 HT_.out ?_
   refine pS 1 35 3 11 HT_.out ?_
   refine pS 2 36 7 11 HT_.out ?_
   refine tS 3 37 15 11 HT_.out HW_.out hHeld ?_
   refine pS 4 38 31 11 HT_.out ?_
   refine pS 5 39 63 11 HT_.out ?_
   refine pS 6 40 127 11 HT_.out ?_
   refine pS 7 41 255 11 HT_.out ?_
   refine tS 8 42 511 11 HT_.out HW_.out hHeld ?_
   refine pS 9 8 1023 11 HT_.out ?_
   refine pS 10 9 2047 11 HT_.out ?_
   refine done_ (done_of HT_.out (by kernel_rfl)) ?_
   clear HT_ HW_ hHeld

   clear wj1 lj3 tj1
   go_upto_region 7 with fail
   refine start_ (n := 27) (S := (fun w' => w'.cell? ⟨gp, 4, none⟩ = some (.slice (some ⟨gv, 0, none⟩) vn vc) ∧ w'.cell? ⟨gp, 2, none⟩ = some (.func (.func 20) #[] #[.pointer (some ⟨gO, 0, none⟩)]) ∧ w'.cell? ⟨gv, xa, none⟩ = some (.int .i64 fa) ∧ w'.cell? ⟨gv, xb, none⟩ = some (.int .i64 fb))) (ds := [26]) (lb 27 0) (by kernel_rfl) rfl rfl (HC7.out { g with ps := g.ps.tail, po := po } rfl rfl w3 HP3.out).1 (fun hHeld => ?_); refine with_tabW M43b_tab M43b_bits (fun HT_ HW_ => ?_)
   have HP4 := Aside0.mk (HP3.out.below (w1 := w3.drew) (Drawn0.below ⟨⟨1, rfl⟩⟩))
   clear HP3
   generalize w3.drew = w4 at HP4 hHeld ⊢
   refine pS 0 43 1 27 HT_.out ?_
   refine pS 1 44 3 27 HT_.out ?_
   refine pS 2 45 7 27 HT_.out ?_
   refine tS 3 46 15 27 HT_.out HW_.out hHeld ?_
   refine pS 4 47 31 27 HT_.out ?_
   refine pS 5 48 63 27 HT_.out ?_
   refine pS 6 49 127 27 HT_.out ?_
   refine pS 7 50 255 27 HT_.out ?_
   refine pS 8 51 511 27 HT_.out ?_
   refine tS 9 52 1023 27 HT_.out HW_.out hHeld ?_
   refine pS 10 53 2047 27 HT_.out ?_
   refine pS 11 54 4095 27 HT_.out ?_
   refine pS 12 55 8191 27 HT_.out ?_
   refine tS 13 56 16383 27 HT_.out HW_.out hHeld ?_
   refine pS 14 57 32767 27 HT_.out ?_
   refine pS 15 58 65535 27 HT_.out ?_
   refine tS 16 59 131071 27 HT_.out HW_.out hHeld ?_
   refine pS 17 60 262143 27 HT_.out ?_
   refine pS 18 61 524287 27 HT_.out ?_
   refine pS 19 62 1048575 27 HT_.out ?_
   refine tS 20 63 2097151 27 HT_.out HW_.out hHeld ?_
   refine pS 21 64 4194303 27 HT_.out ?_
   refine pS 22 65 8388607 27 HT_.out ?_
   refine tS 23 66 16777215 27 HT_.out HW_.out hHeld ?_
   refine one_ (i := 24) (N := some 67) (lb 27 33554431) rfl rfl (one_of HT_.out (by kernel_rfl)) (by decide) (fun K hK => ?_)
   refine goesC_ Tryd.func20 (by kernel_rfl) rfl #[.int .i64 fa, .int .i64 fb, .pointer (some ⟨gO, 0, none⟩)] (by rfl) rfl rfl rfl (by (try simp only [List.map_toArray, List.map_cons, List.map_nil]); first | done | rfl) ?_
   with_reducible refine (HJ.out w4 HP4.out.hb).mono ?_
   rintro e w5 ⟨rfl, hb⟩
   have HP5 := Aside0.mk (HP4.out.below hb)
   clear hb HP4
   refine ⟨_, rfl, ?_⟩
   refine hK.out _ _ (HC7.out { g with ps := g.ps.tail, po := po } rfl rfl w5 HP5.out).1 (fun hHeld => ?_)
   clear hK K
   refine norm_ (a' := ?_) ?_ ?_
   rotate_left
   ·show Act.put _ (some 67) _ = _
    simp only [Act.put, sI, sZ, sC, i64_w, i32_w]
    rfl
   refine pS 25 68 67108863 27 HT_.out ?_
   have hfz := (HC7.out { g with ps := g.ps.tail, po := po } rfl rfl w5 HP5.out).2
   refine last_ (i := 26) (N := none) (lb 27 134217727) rfl rfl (one_of HT_.out (by kernel_rfl)) (by decide) (fun K hK => ?_)
   refine skip_ (w1 := ?_) (by rfl) rfl ?_ ?_
   rotate_left
   ·go_simp
    rfl
   refine hK.out _ _ ?_
   clear hK K
   refine done_ (done_of HT_.out (by kernel_rfl)) ?_
   clear HT_ HW_ hHeld

   have hv6 := HP5.out.view_put (gv := gv) (n := vn) (c := vc) HGV.out xa fab
   replace hv6 : PS w0 (w5.setCell ⟨gv, xa, none⟩ (.int .i64 fab)) gp f { g with ps := g.ps.tail, po := po, vs := g.vs.set xa fab } := hv6
   have HP6 := Aside0.mk hv6
   clear hv6 hfz HP5
   generalize w5.setCell ⟨gv, xa, none⟩ (.int .i64 fab) = w6 at HP6 ⊢
   obtain ⟨hm1, hm2⟩ := HC8.out { g with ps := g.ps.tail, po := po, vs := g.vs.set xa fab } rfl w6 HP6.out
   go_upto_region 9 with (first | ((with_reducible refine gate_builtin (b := .append) (xs := #[.tmp 73, .tmp 78]) rfl ?_); at_builtin; refine Kd.R_append k3 (w0 := w0) w0.heap.size rfl (.tmp 73) (.tmp 78) 38 103 (.agg #[.int .i64 0, .int .i64 0, .int .i64 0]) 24 rfl Tryd.underlying38 info103 rfl (by decide) (by omega) (.slice mA mn mc) g.ms ((t : Int), (xa : Int), (xb : Int)) [.int .i64 (t : Int), .int .i64 (xa : Int), .int .i64 (xb : Int)] (fun _ => True) (fun _ => False) rfl rfl ?aP (fun _ hk => hk.elim) ?aF ?aO ?aB ?aS ?aL ?_; (case aP => exact ⟨[_], [_, _], rfl, rfl, [_], [_], rfl, rfl, rfl⟩); (case aB => exact HP6.out.hb); (case aF => exact fun _ _ => trivial); (case aO => exact HR8.out { g with ps := g.ps.tail, po := po, vs := g.vs.set xa fab } rfl w6 HP6.out); (case aS => exact below_size HP6.out.hb); (case aL => have := HML2.out; omega); intro v8 w9 ho hb hg hat; obtain ⟨A8, c8, rfl, _, _⟩ := Kd.R_reads ho; obtain ⟨hz1, hz2⟩ := HS8.out { g with ps := g.ps.tail, po := po, vs := g.vs.set xa fab } rfl w6 w9 HP6.out hg; have HG8 := Aside0.mk (And.intro ho (And.intro hb hg)); clear ho hb hg hat))
   have hv7 := HP6.out.told hf (t1 := (A8, (g.ms ++ [((t : Int), (xa : Int), (xb : Int))]).length, c8)) HG8.out.1 HG8.out.2.1 (by rw [HMo.out]; exact HG8.out.2.2)
   rw [show (g.ms ++ [((t : Int), (xa : Int), (xb : Int))]).length = g.ms.length + 1 from by simp] at hv7
   replace hv7 : PS w0 (w9.setCell ⟨gp, 8, none⟩ (.slice A8 (g.ms.length + 1) c8)) gp f { g with ps := g.ps.tail, po := po, vs := g.vs.set xa fab, ms := g.ms ++ [((t : Int), (xa : Int), (xb : Int))], mo := (A8, g.ms.length + 1, c8) } := hv7
   have HP7 := Aside0.mk hv7
   clear hv7 hm1 hm2 hz1 hz2 HG8 HP6
   generalize w9.setCell ⟨gp, 8, none⟩ (.slice A8 (g.ms.length + 1) c8) = w7 at HP7 ⊢
   obtain ⟨wj1, wj2, lj3, tj1⟩ := HWJ.out
   refine start_ (n := 10) (S := (fun w' => True)) (ds := [9]) (lb 10 0) (by kernel_rfl) rfl rfl trivial (fun hHeld => ?_); refine with_tabW M43c_tab M43c_bits (fun HT_ HW_ => ?_)
   have HP8 := Aside0.mk (HP7.out.below (w1 := w7.drew) (Drawn0.below ⟨⟨1, rfl⟩⟩))
   clear HP7
   generalize w7.drew = w8 at HP8 hHeld ⊢
   refine pS 0 82 1 10 HT_.out ?_
   refine pS 1 83 3 10 HT_.out ?_
   refine pS 2 84 7 10 HT_.out ?_
   refine pS 3 85 15 10 HT_.out ?_
   refine pS 4 86 31 10 HT_.out ?_
   refine pS 5 87 63 10 HT_.out ?_
   refine pS 6 88 127 10 HT_.out ?_
   refine pS 7 89 255 10 HT_.out ?_
   refine one_ (i := 8) (N := some 90) (lb 10 511) rfl rfl (one_of HT_.out (by kernel_rfl)) (by decide) (fun K hK => ?_)
   refine Kd.R_delete_step (Kd.int .i64) (w0 := w0) w0.heap.size (by rfl) (.tmp 85) (.tmp 89) 24 3 rfl Tryd.underlying24 info3s (g := gi) (n := n) (c := c) (k := j + 1) (m := n - (j + 1 + 1)) (c2 := c - (j + 1 + 1)) (A := Q) (xs := ints s.cur) (ok := fun _ => True) rfl rfl HQ.out (by omega) ?aO ?aK ?aB ?aS ?_
   (case aO => exact HR9.out { g with ps := g.ps.tail, po := po, vs := g.vs.set xa fab, ms := g.ms ++ [((t : Int), (xa : Int), (xb : Int))], mo := (A8, g.ms.length + 1, c8) } rfl rfl w8 HP8.out)
   (case aK => omega)
   (case aB => exact HP8.out.hb)
   (case aS => exact below_size HP8.out.hb)
   intro w9 ho hb hg
   have HG9 := Aside0.mk (And.intro ho (And.intro hb hg))
   clear ho hb hg
   refine hK.out _ _ trivial (fun hHeld => ?_)
   clear hK K
   refine norm_ (a' := ?_) ?_ ?_
   rotate_left
   ·show Act.put _ (some 90) _ = _
    simp only [Act.put, sI, sZ, sC, i64_w, i32_w]
    rfl
   refine pS 9 5 1023 10 HT_.out ?_
   refine done_ (done_of HT_.out (by kernel_rfl)) ?_
   clear HT_ HW_ hHeld

   clear wj1 wj2 lj3 tj1
   have hrs3 := HMl.out.hrs
   have F := HP8.out.row_cut (rs := rs) (c := ((some ⟨gi, 0, none⟩, n, c), ints s.cur)) hrs3 (t1 := (some ⟨gi, 0, none⟩, n - 1, c)) (xs1 := (ints s.cur).eraseIdx (j + 1)) HG9.out.1 HG9.out.2.1 HG9.out.2.2 (.inl rfl)
   have F2 := HMl.out.step HSN.out hn HJJ.out HXX.out.1 HXX.out.2 HY.out.1 HY.out.2 hjl HFab.out (po := po) (mo := (A8, g.ms.length + 1, c8)) (tr1 := (some ⟨gi, 0, none⟩, n - 1, c)) F
   have HF := Aside0.mk (And.intro (show (mstep t s).cur.length = n - 1 by rw [mstep_len t s (by have := HSN.out; omega), HSN.out]) F2)
   clear F F2 hrs3 HP8 HG9
   go_wp2
   go_roundw
   case measure => simp [intOf]; omega
   case rel => exact ⟨some ⟨gi, 0, none⟩, n - 1, c, rfl, by rw [show ((n - 1 : Nat) : Int) = (n : Int) - 1 from by omega], by omega, ⟨⟨mstep t s, _, HF.out.1, HF.out.2⟩⟩⟩
  ·have hd1 : decide (1 < n) = false := decide_eq_false hn
   have hd2 : decide ((1 : Int) < (n : Int)) = false := decide_eq_false (by omega)
   have hle : (n : Int) ≤ 1 := by omega
   obtain ⟨s, g, hsn, hml⟩ := HS.out
   obtain ⟨hx5, hxr, hfz⟩ := HOut.out _ s g _ _ hml
   replace hxr : wr.cell? ⟨gr, k, none⟩ = some (.slice trA trn trc) := hxr
   have HM1 := Aside0.mk hml
   have HS1 := Aside0.mk hsn
   clear hml hsn HS hn
   go_wp2
   go_end0
   refine ⟨rfl, HP.out _ s { g with oh := oh ++ [(A, n, c)] } (A, n, c) ?_ (by have := HS1.out; omega)⟩
   have h := HM1.out
   have h2 := h.ps.row_put h.hoh h.hro (A, n, c)
   rw [HK.out] at h2
   exact ⟨h2, ⟨h.rep.vs, h.rep.rs, h.rep.sp, h.rep.ps, h.rep.ms⟩, h.hrs, h.hro, rfl, h.mi, h.go, h.hV, h.hM⟩

theorem merge_calls {F : List Int → Int} {gO : Nat} {X : Int → Prop} {w0 w : World} {gp : Nat} {f : List Value} {g : Gh} {s : St (List Int)} (h : PS w0 w gp f g) (hrep : Rep F s g) (hf : f.length = 4) (hjoin : f[2]? = some (.func (.func 20) #[] #[.pointer (some ⟨gO, 0, none⟩)])) (t : Nat) {pre : List Nat} {L : List Int} (hmi : MI pre s.cur s.views L) (hJoin : ∀ w' a b, Below w0.heap.size w0 w' → (∀ y, y ∈ a → X y) → (∀ y, y ∈ b → X y) → Calls Tryd.prog 20 #[.int .i64 (F a), .int .i64 (F b), .pointer (some ⟨gO, 0, none⟩)] w' fun e w'' => e = .returned (.int .i64 (F (a ++ b))) ∧ Below w'.heap.size w' w'') (hX : ∀ y, y ∈ L → X y)
  (hL : L.length ≤ 2097152) (hV : s.views.length ≤ 4194304) (hM : s.merges.length + s.cur.length ≤ 2097152) (hR : s.up.length ≤ 4194304) (hc : s.cur ≠ []) :
  Calls Tryd.prog 43 #[.pointer (some ⟨gp, 0, none⟩), .int .i64 (t : Int)] w fun e w' => e = .returned (.tuple #[]) ∧ ∃ g', PS w0 w' gp f g' ∧ Rep F (s.merge red t) g' := by
 obtain ⟨rs, ⟨tr, xs⟩, hr, hx, hr2, hl⟩ := hrep.last
 replace hx : xs = ints s.cur := hx
 subst hx
 have hoh := hrep.oh
 rw [hr, List.map_append] at hoh
 obtain ⟨gr, cr, hro⟩ : ∃ gr cr, g.ro = (some ⟨gr, 0, none⟩, rs.length + 1, cr) := by
  obtain ⟨g2, c2, e1, _, _⟩ := fam_at (h1 := slv_one) h.f24 0 rfl (none, 0, 0) rs.length (by rw [hoh]; simp)
  have e2 := slv_form e1
  rw [hoh, List.length_append, List.length_map] at e2
  exact ⟨g2, c2, e2⟩
 have hmem : (slv tr, ints s.cur) ∈ g.rs.map hv ++ [hv g.sp] := by rw [hr]; simp [hv]
 have hn : s.cur.length = tr.2.1 := by
  have := (Kd.R_reads' (Fam.R (h1 := fun _ => rfl) h.f3 hmem)).1
  rw [this, ints_length]
 refine (merge_walk t pre L s g rs gr rs.length cr (rs.map (·.1)) tr tr s.views.length (s.merges.length + s.cur.length) hf hjoin hJoin hX ⟨h, hrep.toRep0, hr, hro, hoh, hmi, rfl, Nat.le_refl _, Nat.le_refl _⟩ rfl (by rw [List.length_map]) (by omega) hL hV hM hn (fun w' => ∃ g', PS w0 w' gp f g' ∧ Rep F (s.merge red t) g') ?_)
 intro w' s' g' tr' hml hle
 have e1 : s' = s.merge red t := by rw [← hml.go]; exact (merge_done t s' hle).symm
 subst e1
 refine ⟨g', hml.ps, ⟨hml.rep, ?_⟩⟩
 rw [hml.hoh, hml.hrs, List.map_append]
 rfl
end Go.Proofs.YtamfkglnejhjdaaDoor.PlayState
namespace Go.Proofs.YtamfkglnejhjdaaDoor.PlayState
open Go.Proofs.YtamfkglnejhjdaaDoorW.PrintLast (sI sZ sC)
open Go.RowKit Go.Proofs.YtamfkglnejhjdaaDoorW.PrintWords Go.Proofs.YtamfkglnejhjdaaDoor.Fam
theorem fam_nil_mid {α : Type} {enc : α → Value} {e : Nat} {h1 : ∀ x : α, (enc x).oneCell' = true} {w : World} {base : Nat} {L1 L2 : List (Value × List α)} (h : Fam enc e w base (L1 ++ L2)) : Fam enc e w base (L1 ++ (.slice none 0 0, []) :: L2) := by
 have hn : w.ownsRow base e 1 (.slice none 0 0) ([] : List α).length (encs enc ([] : List α)) := Kd.own_of_R (enc := enc) (h1 := h1) (Kd.R_nil _ e w base (fun _ => True))
 obtain ⟨a1, a2, a3⟩ := List.pairwise_append.1 h.apart
 refine ⟨fun p hp => ?_, ?_⟩
 ·rcases List.mem_append.1 hp with hp | hp
  ·exact h.own p (List.mem_append_left _ hp)
  ·rcases List.mem_cons.1 hp with rfl | hp
   ·exact hn
   ·exact h.own p (List.mem_append_right _ hp)
 ·rw [List.pairwise_append, List.pairwise_cons]
  refine ⟨a1, ⟨fun q hq => .inl rfl, a2⟩, fun p hp q hq => ?_⟩
  rcases List.mem_cons.1 hq with rfl | hq
  ·exact Ap.symm (.inl rfl)
  ·exact a3 p hp q hq
end Go.Proofs.YtamfkglnejhjdaaDoor.PlayState
namespace Go.Proofs.YtamfkglnejhjdaaDoor.PlayState
open Go.Proofs.YtamfkglnejhjdaaDoorW.PrintLast (sI sZ sC)
open Go.RowKit Go.Proofs.YtamfkglnejhjdaaDoorW.PrintWords Go.Proofs.YtamfkglnejhjdaaDoorW.PrintLast Go.Proofs.YtamfkglnejhjdaaDoorW.PrintMore Go.Proofs.YtamfkglnejhjdaaDoor.Fam Go.Proofs.YtamfkglnejhjdaaDoor.Play
set_option linter.unusedVariables false
theorem fam_perm {α : Type} {enc : α → Value} {e : Nat} {w : World} {base : Nat} {L L2 : List (Value × List α)} (h : Fam enc e w base L) (hp : L.Perm L2) : Fam enc e w base L2 :=
 ⟨fun p hm => h.own p (hp.symm.subset hm), hp.pairwise h.apart (fun h => Ap.symm h)⟩
theorem fam_take_at {α : Type} {enc : α → Value} {e : Nat} {w : World} {base : Nat} {L : List (Value × List α)} {A : Option Addr} {n c : Nat} {xs : List α} (h : Fam enc e w base L) (i : Nat) (hi : L[i]? = some (.slice A n c, xs)) (m : Nat) (hm : m ≤ n) (hn : n = xs.length) : Fam enc e w base (L.set i (.slice A m c, xs.take m)) := by
 refine h.put hi ?_ (fun _ _ _ => rfl) (.inl (by cases A <;> rfl))
 have h1 := h.own _ (List.mem_iff_getElem?.2 ⟨i, hi⟩)
 simp only at h1
 rw [← hn] at h1
 have h2 := own_take h1 hm
 have e1 : (encs enc xs).take (m * 1) = encs enc (xs.take m) := by simp [encs, List.map_take]
 rw [e1] at h2
 rw [List.length_take, Nat.min_eq_left (by omega)]
 exact h2
section
variable {w0 w w1 : World} {gp : Nat} {f : List Value} {g : Gh}
theorem PS.sp_at (g : Gh) : (g.rs.map hv ++ [hv g.sp])[g.rs.length]? = some (slv g.sp.1, g.sp.2) := by
 rw [List.getElem?_append_right (by simp)]
 simp [hv]
theorem sp_set (g : Gh) (x : Value × List Int) : (g.rs.map hv ++ [hv g.sp]).set g.rs.length x = g.rs.map hv ++ [x] := by
 rw [List.set_append_right _ _ (by simp)]
 simp
theorem PS.sp_grew (h : PS w0 w gp f g) (hf : f.length = 4) {ok : Nat → Prop} {t1 : Sl} {xs1 : List Int}
  (ho : Kd.R (Kd.int .i64) 3 w1 w0.heap.size ok (slv t1) xs1) (hb : Below w0.heap.size w0 w1) (hg : w.grownBy w1 (slv g.sp.1).ownBlock) (hat : (slv t1).ownBlock = (slv g.sp.1).ownBlock ∨ ∃ b, (slv t1).ownBlock = some b ∧ w.heap.size ≤ b) :
  PS w0 (w1.setCell ⟨gp, 6, none⟩ (slv t1)) gp f { g with sp := (t1, xs1) } := by
 have hmem : (slv g.sp.1, g.sp.2) ∈ g.rs.map hv ++ [hv g.sp] := List.mem_iff_getElem?.2 ⟨_, PS.sp_at g⟩
 have ty : ∀ {e : Nat}, e ≠ 3 → ∀ b, (slv g.sp.1).ownBlock = some b → ∃ cells t, w.heap[b]? = some (.cells cells t (0, 0)) ∧ e ≠ t := fun he b hb => by
  obtain ⟨cells, t, h1, rfl⟩ := h.typed3 hmem b hb
  exact ⟨cells, _, h1, he⟩
 have bp := (h.stays3 hmem hg h.bp (by decide)).trans h.bp
 have f2 := fam_grown h.f2 hg (ty (by decide))
 have f24 := fam_grown h.f24 hg (ty (by decide))
 have mg := mg_grown h.mg k3_E hg (ty (by decide))
 have f3 := fam_grew (h1 := fun _ => rfl) h.f3 g.rs.length (PS.sp_at g) ho hg hat
 rw [sp_set] at f3
 have keep : ∀ b, b < w1.heap.size → b ≠ gp → (w1.setCell ⟨gp, 6, none⟩ (slv t1)).heap[b]? = w1.heap[b]? := fun b hb hn =>
  ((Kept.refl w1 (fun k => k = gp)).setCell (p := ⟨gp, 6, none⟩) (.inl rfl) (slv t1)).2 b hb hn
 refine ⟨hb.setCell (p := ⟨gp, 6, none⟩) h.gep _, ?_, h.gep, f2.far bp (by decide) keep, f3.far bp (by decide) keep, f24.far bp (by decide) keep, ?_, h.pk⟩
 ·obtain ⟨a, b, c', d, rfl⟩ : ∃ a b c' d, f = [a, b, c', d] := by
   match f, hf with
   | [a, b, c', d], _ => exact ⟨a, b, c', d, rfl⟩
  exact blk_put bp 6 _ rfl
 ·exact mg_grown mg k3_E (row := some gp) ⟨rfl, rfl, rfl, by simp, fun b hb hn => keep b hb (fun e => hn (by rw [e]))⟩ (fun b hb => by injection hb with hb; subst hb; exact ⟨_, _, bp, by decide⟩)
theorem PS.sp_cut (h : PS w0 w gp f g) (hf : f.length = 4) {A : Option Addr} {n c : Nat} {xs : List Int} (hs : g.sp = ((A, n, c), xs)) (m : Nat) (hm : m ≤ n) :
  PS w0 (w.setCell ⟨gp, 6, none⟩ (.slice A m c)) gp f { g with sp := ((A, m, c), xs.take m) } := by
 have hq : (g.rs.map hv ++ [hv g.sp])[g.rs.length]? = some (.slice A n c, xs) := by rw [PS.sp_at g, hs]; rfl
 have hm2 : (Value.slice A n c, xs) ∈ g.rs.map hv ++ [hv g.sp] := List.mem_iff_getElem?.2 ⟨_, hq⟩
 have hn : n = xs.length := (Kd.R_reads' (Fam.R (h1 := fun _ => rfl) h.f3 hm2)).1
 have f3 := fam_take_at h.f3 _ hq m hm hn
 rw [sp_set] at f3
 refine h.cellw 6 _ (g2 := { g with sp := ((A, m, c), xs.take m) }) ?_ h.f2 f3 h.f24 h.mg h.pk
 obtain ⟨a, b, c', d, rfl⟩ : ∃ a b c' d, f = [a, b, c', d] := by
  match f, hf with
  | [a, b, c', d], _ => exact ⟨a, b, c', d, rfl⟩
 rfl
theorem PS.row_lit (h : PS w0 w gp f g) (y : Int) : PS w0 (w.alloc (.cells #[.int .i64 y] 3)) gp f g ∧ Fam (Value.int .i64) 3 (w.alloc (.cells #[.int .i64 y] 3)) w0.heap.size ((g.rs.map hv ++ [hv g.sp]) ++ [(.slice (some ⟨w.heap.size, 0, none⟩) 1 1, [y])]) := by
 have hb := below_alloc (Below.refl w.heap.size w) (.cells #[.int .i64 y] 3)
 refine ⟨h.below hb, h.f3.add ?_ (fun b hlt => hb.block b hlt) (fun b hb => ?_)⟩
 ·exact own_lit w w0.heap.size 3 .i64 [y] (below_size h.hb) (by simp)
 ·have : w.heap.size = b := by simpa [Value.ownBlock] using hb
  omega
theorem PS.row_new (h : PS w0 w gp f g) (hf : f.length = 4) {t1 : Sl} {xs1 : List Int} (hf3 : Fam (Value.int .i64) 3 w w0.heap.size ((g.rs.map hv ++ [hv g.sp]) ++ [(slv t1, xs1)])) {ok : Nat → Prop} {t2 : Sl}
  (ho : Kd.R kSl 24 w1 w0.heap.size ok (slv t2) (g.oh ++ [t1])) (hb : Below w0.heap.size w0 w1) (hg : w.grownBy w1 (slv g.ro).ownBlock) (hat : (slv t2).ownBlock = (slv g.ro).ownBlock ∨ ∃ b, (slv t2).ownBlock = some b ∧ w.heap.size ≤ b) :
  PS w0 (w1.setCell ⟨gp, 5, none⟩ (slv t2)) gp f { g with rs := g.rs ++ [(t1, xs1)], oh := g.oh ++ [t1], ro := t2 } := by
 have ty : ∀ {e : Nat}, e ≠ 24 → ∀ b, (slv g.ro).ownBlock = some b → ∃ cells t, w.heap[b]? = some (.cells cells t (0, 0)) ∧ e ≠ t := fun he b hb => by
  obtain ⟨cells, hc⟩ := own_typed (h.f24.own _ (List.mem_singleton.2 rfl)) b hb
  exact ⟨cells, _, hc, he⟩
 have blk : ∀ {b t : Nat} {cs : Array Value}, w.heap[b]? = some (.cells cs t (0, 0)) → t ≠ 24 → w1.heap[b]? = some (.cells cs t (0, 0)) := fun {b t cs} h1 ht => by
  refine (hg.block b (blk_lt h1) (fun e => ?_)).trans h1
  obtain ⟨cells, t', h2, h3⟩ := ty ht b e.symm
  rw [h1] at h2
  injection h2 with h2
  injection h2 with _ h2
  exact h3 h2
 have bp := blk h.bp (by decide)
 have f2 := fam_grown h.f2 hg (ty (by decide))
 have f3 := fam_grown hf3 hg (ty (by decide))
 have mg := mg_grown h.mg k3_E hg (ty (by decide))
 have f24 := fam_grew (h1 := slv_one) h.f24 0 rfl ho hg hat
 simp only [List.set_cons_zero] at f24
 have keep : ∀ b, b < w1.heap.size → b ≠ gp → (w1.setCell ⟨gp, 5, none⟩ (slv t2)).heap[b]? = w1.heap[b]? := fun b hb hn =>
  ((Kept.refl w1 (fun k => k = gp)).setCell (p := ⟨gp, 5, none⟩) (.inl rfl) (slv t2)).2 b hb hn
 refine ⟨hb.setCell (p := ⟨gp, 5, none⟩) h.gep _, ?_, h.gep, f2.far bp (by decide) keep, ?_, f24.far bp (by decide) keep, ?_, h.pk⟩
 ·obtain ⟨a, b, c', d, rfl⟩ : ∃ a b c' d, f = [a, b, c', d] := by
   match f, hf with
   | [a, b, c', d], _ => exact ⟨a, b, c', d, rfl⟩
  exact blk_put bp 5 _ rfl
 ·have h3 := f3.far bp (by decide) keep
  refine fam_perm h3 ?_
  show List.Perm _ ((g.rs ++ [(t1, xs1)]).map hv ++ [hv g.sp])
  rw [List.map_append, List.append_assoc, List.append_assoc]
  exact List.Perm.append_left _ List.perm_append_comm
 ·exact mg_grown mg k3_E (row := some gp) ⟨rfl, rfl, rfl, by simp, fun b hb hn => keep b hb (fun e => hn (by rw [e]))⟩ (fun b hb => by injection hb with hb; subst hb; exact ⟨_, _, bp, by decide⟩)
theorem PS.rows_begin (h : PS w0 w gp f g) (hf : f.length = 4) (hrs : g.rs = []) :
  PS w0 ((w.alloc (.cells #[.slice none 0 0] 24)).setCell ⟨gp, 5, none⟩ (.slice (some ⟨w.heap.size, 0, none⟩) 1 1)) gp f { g with rs := [((none, 0, 0), [])], oh := [(none, 0, 0)], ro := (some ⟨w.heap.size, 0, none⟩, 1, 1) } := by
 have hb := below_alloc (Below.refl w.heap.size w) (.cells #[.slice none 0 0] 24)
 have h2 := h.below hb
 have f24 : Fam slv 24 (w.alloc (.cells #[.slice none 0 0] 24)) w0.heap.size [(.slice (some ⟨w.heap.size, 0, none⟩) 1 1, [((none, 0, 0) : Sl)])] := by
  refine ⟨fun p hp => ?_, by simp⟩
  rw [List.mem_singleton] at hp
  subst hp
  have h3 := World.ownsRow_lit (base := w0.heap.size) (e := 24) (size := 1) w #[.slice none 0 0] 1 (below_size h.hb) (by simp [maxLen]) (by simp)
  simpa [encs, slv] using h3
 refine h2.cellw 5 _ (g2 := { g with rs := [((none, 0, 0), [])], oh := [(none, 0, 0)], ro := (some ⟨w.heap.size, 0, none⟩, 1, 1) }) ?_ h2.f2 ?_ f24 h2.mg h2.pk
 ·obtain ⟨a, b, c', d, rfl⟩ : ∃ a b c' d, f = [a, b, c', d] := by
   match f, hf with
   | [a, b, c', d], _ => exact ⟨a, b, c', d, rfl⟩
  rfl
 ·have h3 := h2.f3
  rw [hrs] at h3
  exact fam_nil_mid (h1 := fun _ => rfl) (L1 := []) h3
end
end Go.Proofs.YtamfkglnejhjdaaDoor.PlayState

namespace Go.Proofs.YtamfkglnejhjdaaDoor.PlayState
open Go.Proofs.YtamfkglnejhjdaaDoorW.PrintLast (sI sZ sC)
open Go.RowKit Go.Proofs.YtamfkglnejhjdaaDoorW.PrintWords Go.Proofs.YtamfkglnejhjdaaDoorW.PrintLast Go.Proofs.YtamfkglnejhjdaaDoorW.PrintMore Go.Proofs.YtamfkglnejhjdaaDoor.Fam Go.Proofs.YtamfkglnejhjdaaDoor.Play
set_option linter.unusedVariables false
def fF (gU gO : Nat) : List Value := [.func (.func 22) #[] #[.pointer (some ⟨gU, 0, none⟩)], .func (.func 20) #[] #[.pointer (some ⟨gO, 0, none⟩)], .func (.func 20) #[] #[.pointer (some ⟨gO, 0, none⟩)], .func (.func 23) #[] #[]]
theorem fF_len (gU gO : Nat) : (fF gU gO).length = 4 := rfl
structure FnOk (w0 : World) (gU gO : Nat) (F : List Int → Int) (X : Int → Prop) : Prop where
 unit : gU < w0.heap.size ∧ w0.cell? ⟨gU, 0, none⟩ = some (.int .i64 (F []))
 join : ∀ w' a b, Below w0.heap.size w0 w' → (∀ y, y ∈ a → X y) → (∀ y, y ∈ b → X y) → Calls Tryd.prog 20 #[.int .i64 (F a), .int .i64 (F b), .pointer (some ⟨gO, 0, none⟩)] w' fun e w'' => e = .returned (.int .i64 (F (a ++ b))) ∧ Below w'.heap.size w' w''
 put : ∀ w' a x, Below w0.heap.size w0 w' → (∀ y, y ∈ a → X y) → X x → Calls Tryd.prog 20 #[.int .i64 (F a), .int .i64 x, .pointer (some ⟨gO, 0, none⟩)] w' fun e w'' => e = .returned (.int .i64 (F (a ++ [x]))) ∧ Below w'.heap.size w' w''
def AT (F : List Int → Int) (w0 w : World) (gp gU gO : Nat) (s : St (List Int)) : Prop := ∃ g, PS w0 w gp (fF gU gO) g ∧ Rep F s g
section
variable {F : List Int → Int} {X : Int → Prop} {w0 w w1 : World} {gp gU gO : Nat} {s : St (List Int)} {L : List Int} {n : Nat}
theorem AT.below (h : AT F w0 w gp gU gO s) (hb : Below w.heap.size w w1) : AT F w0 w1 gp gU gO s := by
 obtain ⟨g, h1, h2⟩ := h
 exact ⟨g, h1.below hb, h2⟩
theorem hand_at (h : AT F w0 w gp gU gO s) (hB : Bd n s L) (hn : n ≤ 100000) :
  Calls Tryd.prog 42 #[.pointer (some ⟨gp, 0, none⟩)] w fun e w' => e = .returned (.int .i64 (s.hand : Int)) ∧ Drawn0 w w' := by
 obtain ⟨g, hp, hr⟩ := h
 obtain ⟨rs, c, h1, h2, h3, h4⟩ := hr.last
 obtain ⟨hne, hl, _⟩ := hB.cur
 have hpos : 0 < s.cur.length := List.length_pos_iff.2 hne
 have hcl : c.2.length = s.cur.length := by rw [h2, ints_length]
 have e : c.2.getD (c.2.length - 1) 0 = (s.hand : Int) := by
  rw [hcl, h2, ints_getD]
  congr 1
  unfold St.hand
  rw [List.getLastD_eq_getLast?, List.getLast?_eq_getElem?, List.getD_eq_getElem?_getD]
 have := hand_calls hp (fF_len gU gO) hr.oh h1 (by omega) (by omega) (by have := hr.rows_len; have := hB.up; omega)
 rw [e] at this
 exact this
theorem made_at (h : AT F w0 w gp gU gO s) (hF : FnOk w0 gU gO F X) (hn1 : s.up.length ≤ 100000) (hn2 : s.views.length ≤ 100000) (hn3 : s.cur.length ≤ 100000) :
  Calls Tryd.prog 41 #[.pointer (some ⟨gp, 0, none⟩)] w fun e w' => e = .returned (.tuple #[]) ∧ AT F w0 w' gp gU gO (s.made red) := by
 obtain ⟨g, hp, hr⟩ := h
 obtain ⟨rs, c, h1, h2, h3, h4⟩ := hr.last
 have hvl := hr.views_len
 refine (made_calls hp hF.unit (f1 := .func (.func 20) #[] #[.pointer (some ⟨gO, 0, none⟩)]) (f2 := .func (.func 20) #[] #[.pointer (some ⟨gO, 0, none⟩)]) (f3 := .func (.func 23) #[] #[]) rfl hr.oh h1 (by omega) (by omega) (by rw [h2, ints_length]; omega)).mono ?_
 rintro e w' ⟨rfl, t1, vo, hp2⟩
 refine ⟨rfl, _, hp2, ⟨⟨?_, ?_, hr.sp, hr.ps, hr.ms⟩, ?_⟩⟩
 ·show g.vs ++ [F []] = (s.views ++ [red.fresh]).map F
  rw [List.map_append, hr.vs]
  rfl
 ·show (rs ++ [(t1, c.2 ++ [(g.vs.length : Int)])]).map (fun h : Hd => h.2) = s.up.reverse.map ints ++ [ints (s.cur ++ [s.views.length])]
  rw [List.map_append, h3, h2, hvl]
  simp [ints]
 ·show rs.map (fun h : Hd => h.1) ++ [t1] = (rs ++ [(t1, _)]).map (fun h : Hd => h.1)
  rw [List.map_append]
  rfl
theorem leave_at (h : AT F w0 w gp gU gO s) (hn1 : s.up.length ≤ 100000) (hu : s.up ≠ []) :
  Calls Tryd.prog 44 #[.pointer (some ⟨gp, 0, none⟩)] w fun e w' => e = .returned (.tuple #[]) ∧ AT F w0 w' gp gU gO s.leave := by
 obtain ⟨g, hp, hr⟩ := h
 obtain ⟨rs, c, h1, h2, h3, h4⟩ := hr.last
 refine (leave_calls hp (fF_len gU gO) hr.oh h1 (by have := hr.rows_len; omega)).mono ?_
 rintro e w' ⟨rfl, ro, hp2⟩
 refine ⟨rfl, _, hp2, ⟨⟨hr.vs, ?_, hr.sp, hr.ps, hr.ms⟩, rfl⟩⟩
 show rs.map (·.2) = s.up.tail.reverse.map ints ++ [ints (s.up.headD [])]
 rw [h3]
 cases hs : s.up with
 | nil => exact absurd hs hu
 | cons r up => simp
theorem merge_at (h : AT F w0 w gp gU gO s) (hF : FnOk w0 gU gO F X) (hX : ∀ y, y ∈ L → X y) (hB : Bd n s L) (hn : n ≤ 100000) (t : Nat) :
  Calls Tryd.prog 43 #[.pointer (some ⟨gp, 0, none⟩), .int .i64 (t : Int)] w fun e w' => e = .returned (.tuple #[]) ∧ AT F w0 w' gp gU gO (s.merge red t) := by
 obtain ⟨g, hp, hr⟩ := h
 obtain ⟨pre, hmi, _⟩ := hB.inv.mi
 obtain ⟨hne, hl, _⟩ := hB.cur
 exact merge_calls hp hr (fF_len gU gO) rfl t hmi hF.join hX (by have := hB.len; omega) (by have := hB.views; omega) (by omega) (by have := hB.up; omega) hne
def begun (ps : List Int) : St (List Int) := { cur := [], up := [], spawns := [], count := 0, views := [], picks := ps, merges := [], looks := [] }
theorem begun_made (ps : List Int) : (begun ps).made red = Play.start red ps := rfl
end
end Go.Proofs.YtamfkglnejhjdaaDoor.PlayState
namespace Go.Proofs.YtamfkglnejhjdaaDoor.PlayState
open Go.Proofs.YtamfkglnejhjdaaDoorW.PrintLast (pS tS lb sI sZ sC)
open Go.RowKit Go.Proofs.YtamfkglnejhjdaaDoorW.PrintWords Go.Proofs.YtamfkglnejhjdaaDoor.Fam Go.Proofs.YtamfkglnejhjdaaDoor.Play
set_option linter.unusedVariables false
theorem addr_inj {a b : Nat} {x y : Nat × Nat} (h : ((some ⟨a, 0, none⟩, x) : Option Addr × Nat × Nat) = (some ⟨b, 0, none⟩, y)) : a = b := by
 injection h with h _
 injection h with h
 injection h
theorem view_facts {F : List Int → Int} {w0 w : World} {gp : Nat} {f : List Value} {g : Gh} {s : St (List Int)} (hr : Rep0 F s g) (hf : f.length = 4) {v : Nat} (hvl : v < s.views.length) (hp : PS w0 w gp f g) :
  ∃ gv vc, g.vo = (some ⟨gv, 0, none⟩, s.views.length, vc) ∧ ∀ w', PS w0 w' gp f g → (w'.cell? ⟨gp, 4, none⟩ = some (.slice (some ⟨gv, 0, none⟩) s.views.length vc) ∧ w'.cell? ⟨gv, v, none⟩ = some (.int .i64 (F (s.views.getD v [])))) ∧ w'.frozen? ⟨gv, v, none⟩ = false := by
 obtain ⟨gv, vc, e1, _, _⟩ := fam_at (h1 := fun _ => rfl) hp.f2 0 rfl 0 v (by rw [hr.views_len]; exact hvl)
 have e2 := slv_form e1
 rw [hr.views_len] at e2
 refine ⟨gv, vc, e2, fun w' h => ?_⟩
 have hc := (h.cell hf).1
 rw [e2] at hc
 obtain ⟨g2, c2, e5, h5, h6⟩ := fam_at (h1 := fun _ => rfl) h.f2 0 rfl 0 v (by rw [hr.views_len]; exact hvl)
 have e6 := slv_form e5
 rw [e2] at e6
 obtain rfl := addr_inj e6
 rw [hr.view hvl] at h5
 exact ⟨⟨hc, h5⟩, h6⟩
theorem AT.write {F : List Int → Int} {w0 w1 : World} {gp gU gO : Nat} {s : St (List Int)} {g : Gh} (hr : Rep F s g) {x : Int} (h : PS w0 w1 gp (fF gU gO) { g with vs := g.vs.set s.hand (F (s.views.getD s.hand [] ++ [x])) }) : AT F w0 w1 gp gU gO (s.write red x) := by
 refine ⟨_, h, ⟨⟨?_, hr.rs, hr.sp, hr.ps, hr.ms⟩, hr.oh⟩⟩
 show g.vs.set s.hand (F (s.views.getD s.hand [] ++ [x])) = (s.views.set s.hand (red.put (s.views.getD s.hand red.fresh) x)).map F
 rw [List.map_set, hr.vs]
 rfl
theorem AT.read {F : List Int → Int} {w0 w1 : World} {gp gU gO : Nat} {s : St (List Int)} (h : AT F w0 w1 gp gU gO s) : AT F w0 w1 gp gU gO (s.read red) := by
 obtain ⟨g, h1, hr⟩ := h
 exact ⟨g, h1, ⟨⟨hr.vs, hr.rs, hr.sp, hr.ps, hr.ms⟩, hr.oh⟩⟩
theorem AT.spawn {F : List Int → Int} {w0 w1 : World} {gp gU gO : Nat} {s : St (List Int)} {g : Gh} (hr : Rep F s g) {t1 ro t2 : Sl} (h : PS w0 w1 gp (fF gU gO) { g with rs := g.rs ++ [(t1, [(s.hand : Int)])], oh := g.oh ++ [t1], ro := ro, sp := (t2, g.sp.2 ++ [(s.count : Int)]) }) : AT F w0 w1 gp gU gO s.spawn := by
 refine ⟨_, h, ⟨⟨hr.vs, ?_, ?_, hr.ps, hr.ms⟩, ?_⟩⟩
 ·show (g.rs ++ [(t1, [(s.hand : Int)])]).map (fun h : Hd => h.2) = (s.cur :: s.up).reverse.map ints ++ [ints [s.hand]]
  rw [List.map_append, hr.rs]
  simp [ints]
 ·show g.sp.2 ++ [(s.count : Int)] = ints (s.count :: s.spawns).reverse
  rw [hr.sp]
  simp [ints]
 ·show g.oh ++ [t1] = (g.rs ++ [(t1, _)]).map (fun h : Hd => h.1)
  rw [List.map_append, ← hr.oh]
  rfl
theorem AT.cut {F : List Int → Int} {w0 w1 : World} {gp gU gO : Nat} {s : St (List Int)} {g : Gh} (hr : Rep F s g) {t2 : Sl} {sn : Nat} (hn : s.spawns.length = sn + 1) (h : PS w0 w1 gp (fF gU gO) { g with sp := (t2, g.sp.2.take sn) }) : AT F w0 w1 gp gU gO { s with spawns := s.spawns.tail } := by
 refine ⟨_, h, ⟨⟨hr.vs, hr.rs, ?_, hr.ps, hr.ms⟩, hr.oh⟩⟩
 show g.sp.2.take sn = ints s.spawns.tail.reverse
 rw [hr.sp]
 cases hs : s.spawns with
 | nil => rw [hs] at hn; simp at hn
 | cons a r =>
  rw [hs] at hn
  have : r.length = sn := by simpa using hn
  subst this
  simp [ints, List.take_left']
theorem spawn_facts {F : List Int → Int} {w0 w : World} {gp : Nat} {f : List Value} {g : Gh} {s : St (List Int)} (hr : Rep0 F s g) (hf : f.length = 4) {sn : Nat} (hn : s.spawns.length = sn + 1) (hp : PS w0 w gp f g) :
  ∃ gs sc, g.sp = ((some ⟨gs, 0, none⟩, sn + 1, sc), g.sp.2) ∧ sn + 1 ≤ sc ∧ ∀ w', PS w0 w' gp f g → w'.cell? ⟨gp, 6, none⟩ = some (.slice (some ⟨gs, 0, none⟩) (sn + 1) sc) ∧ w'.cell? ⟨gs, sn, none⟩ = some (.int .i64 ((s.spawns.headD 0 : Nat) : Int)) := by
 have hq := PS.sp_at g
 have hl : g.sp.2.length = sn + 1 := by rw [hr.sp, ints_length, List.length_reverse]; exact hn
 obtain ⟨gs, sc, e1, _, _⟩ := fam_at (h1 := fun _ => rfl) hp.f3 _ hq 0 sn (by omega)
 have e2 := slv_form e1
 rw [hl] at e2
 have hm : (slv g.sp.1, g.sp.2) ∈ g.rs.map hv ++ [hv g.sp] := List.mem_iff_getElem?.2 ⟨_, hq⟩
 have hcap : sn + 1 ≤ sc := by
  have h1 := Fam.R (h1 := fun _ => rfl) hp.f3 hm
  rw [show (slv g.sp.1, g.sp.2).1 = .slice (some ⟨gs, 0, none⟩) (sn + 1) sc from by rw [e2]; rfl] at h1
  exact (Kd.R_reads' h1).2.1
 refine ⟨gs, sc, by rw [← e2], hcap, fun w' h => ?_⟩
 have hc := (h.cell hf).2.2.1
 rw [e2] at hc
 obtain ⟨g2, c2, e5, h5, _⟩ := fam_at (h1 := fun _ => rfl) h.f3 _ hq 0 sn (by omega)
 have e6 := slv_form e5
 rw [e2] at e6
 obtain rfl := addr_inj e6
 refine ⟨hc, ?_⟩
 rw [h5]
 have : g.sp.2.getD sn 0 = ((s.spawns.headD 0 : Nat) : Int) := by
  rw [hr.sp, ints_getD]
  congr 1
  cases hs : s.spawns with
  | nil => rw [hs] at hn; simp at hn
  | cons a r =>
   rw [hs] at hn
   have : r.length = sn := by simpa using hn
   subst this
   simp [List.getD_eq_getElem?_getD]
 rw [this]
end Go.Proofs.YtamfkglnejhjdaaDoor.PlayState
namespace Go.Proofs.YtamfkglnejhjdaaDoor.PlayState
open Go.Proofs.YtamfkglnejhjdaaDoorW.PrintLast (pS tS lb sI sZ sC)
open Go.Proofs.YtamfkglnejhjdaaDoor.PHyperFold (info3 S46 k46 z46 rd_T46 at_T46 k46_open)
open Go.RowKit Go.Proofs.YtamfkglnejhjdaaDoorW.PrintWords Go.Proofs.YtamfkglnejhjdaaDoorW.PrintLast Go.Proofs.YtamfkglnejhjdaaDoorW.PrintMore Go.Proofs.YtamfkglnejhjdaaDoor.Fam Go.Proofs.YtamfkglnejhjdaaDoor.Play Go.Proofs.YtamfkglnejhjdaaDoor.Base
set_option linter.unusedSimpArgs false
set_option linter.unusedVariables false

def R24a : Bool × List (List Nat × List Nat) := (true, [([], []), ([0], [0]), ([1], [1]), ([2], [2]), ([], []), ([], []), ([5], [5]), ([6], [6]), ([7], [7]), ([8], [8]), ([], []), ([10], [10]), ([11], [11]), ([12], [12]), ([], []), ([13, 14], [13, 14]), ([15], [15]), ([], []), ([17], [17]), ([9, 16, 18], [9, 16, 18]), ([3, 4, 0, 1, 2, 3, 4, 5, 6, 7, 8, 9, 10, 11, 12, 13, 14, 15, 16, 17, 18, 19], [3, 4]), ([20, 19, 19, 0, 1, 2, 3, 4, 5, 6, 7, 8, 9, 10, 11, 12, 13, 14, 15, 16, 17, 18, 19], [19, 20])])
def R24aB : List Nat := [0, 1, 3, 7, 0, 0, 32, 96, 224, 480, 0, 1024, 3072, 7168, 0, 31744, 64512, 0, 131072, 524256, 1048575, 2097151]
theorem R24a_tab : rtab .any (opsOf Tryd.f24 9) = R24a := by kernel_rfl
theorem R24a_bits : waitsOk R24a.2 R24aB = true := by kernel_rfl

def R24b : Bool × List (List Nat × List Nat) := (true, [([], []), ([0], [0]), ([1], [1]), ([2], [2]), ([3], [3]), ([], []), ([5], [5]), ([6], [6]), ([7], [7]), ([], []), ([9], [9]), ([8, 10], [8, 10]), ([11], [11]), ([4, 12, 10], [4, 12])])
def R24bB : List Nat := [0, 1, 3, 7, 15, 0, 32, 96, 224, 0, 512, 2016, 4064, 8191]
theorem R24b_tab : rtab .any (opsOf Tryd.f24 11) = R24b := by kernel_rfl
theorem R24b_bits : waitsOk R24b.2 R24bB = true := by kernel_rfl

def R24c : Bool × List (List Nat × List Nat) := (true, [([], []), ([], []), ([1], [1]), ([2], [2]), ([3], [3]), ([], []), ([5], [5]), ([6], [6]), ([7], [7]), ([4, 8, 6], [4, 8]), ([0, 0, 1, 2, 3, 4, 5, 6, 7, 8, 9], [0]), ([10, 0, 1, 2, 3, 4, 5, 6, 7, 8, 9], [10]), ([11, 9, 9, 0, 1, 2, 3, 4, 5, 6, 7, 8, 9], [9, 11])])
def R24cB : List Nat := [0, 0, 2, 6, 14, 0, 32, 96, 224, 510, 1023, 2047, 4095]
theorem R24c_tab : rtab .any (opsOf Tryd.f24 13) = R24c := by kernel_rfl
theorem R24c_bits : waitsOk R24c.2 R24cB = true := by kernel_rfl

def R24d : Bool × List (List Nat × List Nat) := (true, [([], []), ([0], [0]), ([1], [1]), ([2], [2]), ([], []), ([4], [4]), ([5], [5]), ([6], [6]), ([7], [7]), ([8], [8]), ([3, 9], [3, 9]), ([10], [10]), ([11, 0, 1, 2, 3, 4, 5, 6, 7, 8, 9, 10, 11], [11])])
def R24dB : List Nat := [0, 1, 3, 7, 0, 16, 48, 112, 240, 496, 1023, 2047, 4095]
theorem R24d_tab : rtab .any (opsOf Tryd.f24 21) = R24d := by kernel_rfl
theorem R24d_bits : waitsOk R24d.2 R24dB = true := by kernel_rfl

def R24e : Bool × List (List Nat × List Nat) := (true, [([], []), ([], []), ([1], [1]), ([2], [2]), ([3], [3]), ([], []), ([5], [5]), ([6], [6]), ([7], [7]), ([8], [8]), ([9], [9]), ([4, 10], [4, 10]), ([0, 0, 1, 2, 3, 4, 5, 6, 7, 8, 9, 10, 11], [0]), ([12, 0, 1, 2, 3, 4, 5, 6, 7, 8, 9, 10, 11], [12]), ([13, 11, 0, 1, 2, 3, 4, 5, 6, 7, 8, 9, 10, 11], [11, 13])])
def R24eB : List Nat := [0, 0, 2, 6, 14, 0, 32, 96, 224, 480, 992, 2046, 4095, 8191, 16383]
theorem R24e_tab : rtab .any (opsOf Tryd.f24 22) = R24e := by kernel_rfl
theorem R24e_bits : waitsOk R24e.2 R24eB = true := by kernel_rfl

theorem info24 : (Tryd.prog.info? 24).map (fun i => (i.zero, i.size, i.bytes)) = some (some (.slice none 0 0), 1, 24) := by kernel_rfl
def RL (F : List Int → Int) (X : Int → Prop) (w0 : World) (gp gU gO : Nat) (l : List S46) (b : List Bool) (ps : List Int) (i c : Nat) (w : World) : Prop :=
 ∃ s, s.count = c ∧ AT F w0 w gp gU gO s ∧ (∃ L, Bd i s L ∧ ∀ y, y ∈ L → X y) ∧ right s.up.length ((l.map dd).drop i) = true ∧ run red b i ((l.map dd).drop i) s = run red b 0 (l.map dd) (Play.start red ps)
theorem RL.next {F : List Int → Int} {X : Int → Prop} {w0 w1 : World} {gp gU gO : Nat} {l : List S46} {b : List Bool} {ps : List Int} {i : Nat} {s : St (List Int)} {L : List Int} {d : Int × Int} (hi : (l.map dd)[i]? = some d)
  (hB : Bd i s L) (hr : right s.up.length ((l.map dd).drop i) = true) (hrun : run red b i ((l.map dd).drop i) s = run red b 0 (l.map dd) (Play.start red ps)) (hXL : ∀ y, y ∈ L → X y) (hXP : ∀ y, y ∈ puts [d] → X y) (h : AT F w0 w1 gp gU gO (Play.step red b i d s)) :
  RL F X w0 gp gU gO l b ps (i + 1) (Play.step red b i d s).count w1 := by
 obtain ⟨h1, h2, h3⟩ := right_at hi hr
 refine ⟨_, rfl, h, ⟨_, hB.step b i d (fun e => List.ne_nil_of_length_pos (h2 e)), fun y hy => (List.mem_append.1 hy).elim (hXL y) (hXP y)⟩, ?_, ?_⟩
 ·rw [step_up]; exact h3
 ·obtain ⟨hl, he⟩ := List.getElem?_eq_some_iff.1 hi
  rw [← hrun, List.drop_eq_getElem_cons hl, he]
  rfl
def fin (t : Nat) (s : St (List Int)) : St (List Int) := match s.up.length with
 | 0 => s
 | k + 1 => finish red t k s.leave
theorem fin_merge (t : Nat) (s : St (List Int)) : fin t (s.merge red t) = finish red t s.up.length s := by
 unfold fin
 rw [show (s.merge red t).up = s.up from rfl]
 cases s.up.length <;> rfl

set_option maxHeartbeats 40000000 in
set_option maxRecDepth 100000 in
theorem run_walk {F : List Int → Int} {X : Int → Prop} {w0 w : World} {gp gU gO : Nat} (hFn : FnOk w0 gU gO F X) (A : Option Addr) (c0 : Nat) (l : List S46) (sA : Option Addr) (sc : Nat) (b : List Bool) (hC : Kd.C k46 w0 A l.length l) (hc : l.length ≤ c0) (hS : Kd.C Kd.bool w0 sA b.length b) (hsc : b.length ≤ sc)
  (ps : List Int) (pO : Sl) (hp : PS w0 w gp (fF gU gO) { vs := [], rs := [], sp := ((none, 0, 0), []), vo := (none, 0, 0), ro := (none, 0, 0), mo := (none, 0, 0), po := pO, ps := ps, ms := [], oh := [] }) (hl : l.length ≤ 4096) (hb : b.length ≤ 4096) (hr : right 0 (l.map dd) = true) (hXl : ∀ d, d ∈ l → X d.f1) :
  Calls Tryd.prog 24 #[.pointer (some ⟨gp, 0, none⟩), .slice A l.length c0, .slice sA b.length sc] w fun e w' => e = .returned (.tuple #[]) ∧ AT F w0 w' gp gU gO (play red b ps (l.map dd)) := by
 have hlen : (l.map dd).length = l.length := by simp
 obtain ⟨n, hn⟩ : ∃ n, l.length = n := ⟨_, rfl⟩
 have hl3 : (n : Int) ≤ 4096 := by omega
 have hpb := hp.below (below_alloc (Below.refl _ w) (.cells #[.slice none 0 0] 24))
 have hx5 := (hpb.cell (fF_len gU gO)).2.1
 have hf5 := blk_frozen hpb.bp 5
 clear hpb
 have HP := Aside0.mk (hp.rows_begin (fF_len gU gO) rfl)
 have HC := Aside0.mk hC
 have HCc := Aside0.mk hc
 have HS := Aside0.mk hS
 have HSc := Aside0.mk hsc
 have HR := Aside0.mk hr
 have HN := Aside0.mk hn
 have HLen := Aside0.mk hlen
 have HB := Aside0.mk hb
 obtain ⟨bn, hbn⟩ : ∃ bn, b.length = bn := ⟨_, rfl⟩
 have HBN := Aside0.mk hbn
 have HFn := Aside0.mk hFn
 have HXl := Aside0.mk hXl
 rw [hn, hbn]
 clear hp hC hc hS hsc hr hn hlen hb hbn hFn hXl hl
 go_enter Tryd.func24, Tryd.ntmps24
 go_wp2_with fail
 have HA : Aside0 (AT F w0 _ gp gU gO (begun ps)) := ⟨⟨_, HP.out, ⟨⟨rfl, rfl, rfl, rfl, rfl⟩, rfl⟩⟩⟩
 refine (made_at HA.out HFn.out (by show (0 : Nat) ≤ _; omega) (by show (0 : Nat) ≤ _; omega) (by show (0 : Nat) ≤ _; omega)).mono ?_
 rintro e w1 ⟨rfl, hat⟩
 rw [begun_made] at hat
 have HA1 := Aside0.mk hat
 clear hat HA HP hx5 hf5
 go_wp2
 go_loopw [6, 19] (fun v6 v19 w' => ∃ i c : Nat, i ≤ n ∧ v6 = .int .i64 (c : Int) ∧ v19 = .int .i64 (i : Int) ∧ Aside0 (RL F X w0 gp gU gO l b ps i c w')) (fun _ v19 _ => n - (intOf v19).toNat)
 case atStart => exact ⟨0, 0, Nat.zero_le _, rfl, rfl, ⟨⟨_, rfl, HA1.out, ⟨_, Bd.start ps, fun y hy => absurd hy List.not_mem_nil⟩, HR.out, rfl⟩⟩⟩
 case round =>
  clear HA1
  obtain ⟨i, c, hi, rfl, rfl, HRL⟩ := hrel
  by_cases hlt : i < n
  ·obtain ⟨s, hcount, hat, ⟨L, hB, hXL⟩, hrt, hrun⟩ := HRL.out
   have HXL := Aside0.mk hXL
   clear hXL
   clear HRL
   have hc4 : c ≤ 4096 := by have := hB.count; omega
   obtain ⟨d, hd⟩ : ∃ d, d = rd_T46 l (i : Int) := ⟨_, rfl⟩
   have hdi : (l.map dd)[i]? = some (dd d) := by
    have hil : i < l.length := by rw [HN.out]; exact hlt
    rw [List.getElem?_map, List.getElem?_eq_getElem hil, hd]
    simp [rd_T46, List.getD_eq_getElem?_getD, hil]
   obtain ⟨hkind, hup, _⟩ := right_at hdi hrt
   have hcw : Kd.C k46 wr A l.length l := by
    obtain ⟨g, hp, _⟩ := hat
    exact Kd.C_below HC.out hp.hb
   obtain ⟨ad, e0, hx0, hx1⟩ := at_T46 hcw (i : Int) (by omega) (by rw [HN.out]; omega)
   cases e0
   rw [Int.toNat_natCast, ← hd] at hx0 hx1
   obtain ⟨x0, hxx0⟩ : ∃ x, x = d.f0 := ⟨_, rfl⟩
   obtain ⟨x, hxx1⟩ : ∃ x, x = d.f1 := ⟨_, rfl⟩
   rw [← hxx0] at hx0
   rw [← hxx1] at hx1
   have hdd : dd d = (x0, x) := by rw [hxx0, hxx1]; rfl
   have hdm : d ∈ l := by
    have hil : i < l.length := by rw [HN.out]; exact hlt
    have e : d = l[i] := by rw [hd]; simp [rd_T46, List.getD_eq_getElem?_getD, hil]
    rw [e]
    exact List.getElem_mem hil
   have hxX : X x := by rw [hxx1]; exact HXl.out d hdm
   have HXx := Aside0.mk hxX
   have HXP := Aside0.mk (show ∀ y, y ∈ puts [(x0, x)] → X y from fun y hy => by
    unfold puts at hy
    rw [List.mem_map] at hy
    obtain ⟨a, ha, rfl⟩ := hy
    rw [List.mem_filter, List.mem_singleton] at ha
    obtain ⟨rfl, _⟩ := ha
    exact hxX)
   clear hdm hxX
   rw [hdd] at hdi hkind hup
   have HAT := Aside0.mk hat
   have HBd := Aside0.mk hB
   have HRt := Aside0.mk hrt
   have HRun := Aside0.mk hrun
   have HDi := Aside0.mk hdi
   have HCnt := Aside0.mk hcount
   have HUp := Aside0.mk hup
   have hdl : decide ((i : Int) < (n : Int)) = true := decide_eq_true (by omega)
   have hlb : ((i : Int) < (n : Int)) = True := eq_true (by omega)
   have HKind := Aside0.mk hkind
   clear hat hB hrt hrun hdi hd hcount hup hkind hcw hxx0 hxx1 hdd
   by_cases k4 : x0 = 4
   ·subst k4
    clear HKind
    have HA2 := Aside0.mk (HAT.out.below (below_alloc (Below.refl _ _) (.cells #[.int .i64 4, .int .i64 x] 46)))
    clear HAT

    obtain ⟨g, hp1, hr1⟩ := HA2.out
    obtain ⟨v, hv⟩ : ∃ v, v = s.hand := ⟨_, rfl⟩
    obtain ⟨_, _, hvl, hlenv, hvm⟩ := HBd.out.cur
    rw [← hv] at hvl hvm
    obtain ⟨gv, vc, hvo, hF⟩ := view_facts hr1.toRep0 (fF_len gU gO) hvl hp1
    obtain ⟨ya, hya⟩ : ∃ y, y = s.views.getD v [] := ⟨_, rfl⟩
    rw [← hya] at hF
    obtain ⟨vn, hvn⟩ : ∃ vn, vn = s.views.length := ⟨_, rfl⟩
    rw [← hvn] at hvo hF
    obtain ⟨fy, hfy⟩ : ∃ y, y = F ya := ⟨_, rfl⟩
    rw [← hfy] at hF
    obtain ⟨fz, hfz0⟩ : ∃ y, y = F (ya ++ [x]) := ⟨_, rfl⟩
    have la1 : ((v : Int) < (vn : Int)) = True := eq_true (by omega)
    have hv4 : (v : Int) ≤ 4194304 := by have := HBd.out.views; omega
    have hXy : ∀ y, y ∈ ya → X y := fun y hy => HXL.out y (by
     obtain ⟨pre, hmi, _⟩ := HBd.out.inv.mi
     obtain ⟨hne, hl, _⟩ := HBd.out.cur
     have hpos : 0 < s.cur.length := List.length_pos_iff.2 hne
     refine MI_mem hmi (j := s.cur.length - 1) (by omega) ?_
     have e : s.cur.getD (s.cur.length - 1) 0 = s.hand := by
      unfold St.hand
      rw [List.getLastD_eq_getLast?, List.getLast?_eq_getElem?, List.getD_eq_getElem?_getD]
     rw [e, ← hv, ← hya]
     exact hy)
    have hPut : ∀ w', PS w0 w' gp (fF gU gO) g → Calls Tryd.prog 20 #[.int .i64 fy, .int .i64 x, .pointer (some ⟨gO, 0, none⟩)] w' fun e w'' => e = .returned (.int .i64 fz) ∧ Below w'.heap.size w' w'' := fun w' h => by
     rw [hfy, hfz0]
     exact HFn.out.put w' ya x h.hb hXy HXx.out
    have hC9 : ∀ w', PS w0 w' gp (fF gU gO) g → w'.heap[wr.heap.size]? = some (.cells #[.int .i64 4, .int .i64 x] 46 (0, 0)) → (w'.cell? ⟨gp, 4, none⟩ = some (.slice (some ⟨gv, 0, none⟩) vn vc) ∧ w'.cell? ⟨gp, 1, none⟩ = some (.func (.func 20) #[] #[.pointer (some ⟨gO, 0, none⟩)]) ∧ w'.cell? ⟨gv, v, none⟩ = some (.int .i64 fy) ∧ w'.cell? ⟨wr.heap.size, 1, none⟩ = some (.int .i64 x)) ∧ w'.frozen? ⟨gv, v, none⟩ = false := fun w' h hd => by
     obtain ⟨⟨f1, f2⟩, f3⟩ := hF w' h
     exact ⟨⟨f1, (blk_cell h.bp 1).trans rfl, f2, (blk_cell hd 1).trans rfl⟩, f3⟩
    have hD : (wr.alloc (.cells #[.int .i64 4, .int .i64 x] 46)).heap[wr.heap.size]? = some (.cells #[.int .i64 4, .int .i64 x] 46 (0, 0)) := blk_new wr _
    have HH := Aside0.mk (hand_at HA2.out HBd.out (by omega))
    rw [← hv] at HH
    have HP1 := Aside0.mk hp1
    have HR1 := Aside0.mk hr1
    have HPut := Aside0.mk hPut
    have HC9 := Aside0.mk hC9
    have HD1 := Aside0.mk hD
    have HVO := Aside0.mk (And.intro hvo (And.intro hfz0 (And.intro hv hya)))
    clear hp1 hr1 hPut hC9 hD hvo hvn hF hya hvl hlenv hvm hv HA2 hfy hfz0 hXy
    go_wp2_with fail
    refine HH.out.mono ?_
    rintro e w2 ⟨rfl, hdr⟩
    have HP2 := Aside0.mk (HP1.out.below hdr.below)
    have HD2 := Aside0.mk (blk_below HD1.out hdr.below)
    clear hdr HP1 HD1 HH
    generalize wr.heap.size = gd at HC9 HD2 ⊢
    go_upto_region 9 with fail
    refine start_ (n := 22) (S := (fun w' => w'.cell? ⟨gp, 4, none⟩ = some (.slice (some ⟨gv, 0, none⟩) vn vc) ∧ w'.cell? ⟨gp, 1, none⟩ = some (.func (.func 20) #[] #[.pointer (some ⟨gO, 0, none⟩)]) ∧ w'.cell? ⟨gv, v, none⟩ = some (.int .i64 fy) ∧ w'.cell? ⟨gd, 1, none⟩ = some (.int .i64 x))) (ds := [21]) (lb 22 0) (by kernel_rfl) rfl rfl (HC9.out w2 HP2.out HD2.out).1 (fun hHeld => ?_); refine with_tabW R24a_tab R24a_bits (fun HT_ HW_ => ?_)
    have HP3 := Aside0.mk (HP2.out.below (w1 := w2.drew) (Drawn0.below ⟨⟨1, rfl⟩⟩))
    have HD3 := Aside0.mk (show w2.drew.heap[gd]? = _ from HD2.out)
    clear HP2 HD2
    generalize w2.drew = w3 at HP3 HD3 hHeld ⊢
    refine pS 0 30 1 22 HT_.out ?_
    refine pS 1 31 3 22 HT_.out ?_
    refine pS 2 32 7 22 HT_.out ?_
    refine tS 3 33 15 22 HT_.out HW_.out hHeld ?_
    refine pS 4 34 31 22 HT_.out ?_
    refine pS 5 35 63 22 HT_.out ?_
    refine pS 6 36 127 22 HT_.out ?_
    refine pS 7 37 255 22 HT_.out ?_
    refine pS 8 38 511 22 HT_.out ?_
    refine tS 9 39 1023 22 HT_.out HW_.out hHeld ?_
    refine pS 10 40 2047 22 HT_.out ?_
    refine pS 11 41 4095 22 HT_.out ?_
    refine pS 12 42 8191 22 HT_.out ?_
    refine tS 13 43 16383 22 HT_.out HW_.out hHeld ?_
    refine pS 14 44 32767 22 HT_.out ?_
    refine pS 15 45 65535 22 HT_.out ?_
    refine tS 16 46 131071 22 HT_.out HW_.out hHeld ?_
    refine pS 17 47 262143 22 HT_.out ?_
    refine tS 18 48 524287 22 HT_.out HW_.out hHeld ?_
    refine one_ (i := 19) (N := some 49) (lb 22 1048575) rfl rfl (one_of HT_.out (by kernel_rfl)) (by decide) (fun K hK => ?_)
    refine goesC_ Tryd.func20 (by kernel_rfl) rfl #[.int .i64 fy, .int .i64 x, .pointer (some ⟨gO, 0, none⟩)] (by rfl) rfl rfl rfl (by (try simp only [List.map_toArray, List.map_cons, List.map_nil]); first | done | rfl) ?_
    with_reducible refine (HPut.out w3 HP3.out).mono ?_
    rintro e w5 ⟨rfl, hb⟩
    have HP5 := Aside0.mk (HP3.out.below hb)
    have HD5 := Aside0.mk (blk_below HD3.out hb)
    clear hb
    refine ⟨_, rfl, ?_⟩
    refine hK.out _ _ (HC9.out w5 HP5.out HD5.out).1 (fun hHeld => ?_)
    clear hK K
    refine norm_ (a' := ?_) ?_ ?_
    rotate_left
    ·show Act.put _ (some 49) _ = _
     simp only [Act.put, sI, sZ, sC, i64_w, i32_w]
     rfl
    refine pS 20 50 2097151 22 HT_.out ?_
    have hfz := (HC9.out w5 HP5.out HD5.out).2
    refine last_ (i := 21) (N := none) (lb 22 4194303) rfl rfl (one_of HT_.out (by kernel_rfl)) (by decide) (fun K hK => ?_)
    refine skip_ (w1 := ?_) (by rfl) rfl ?_ ?_
    rotate_left
    ·go_simp
     rfl
    refine hK.out _ _ ?_
    clear hK K
    refine done_ (done_of HT_.out (by kernel_rfl)) ?_
    clear HT_ HW_ hHeld

    have Fq := HP5.out.view_put (gv := gv) (n := vn) (c := vc) HVO.out.1 v fz
    obtain ⟨_, ez, ev, ey⟩ := HVO.out
    rw [ez, ey, ev] at Fq
    have hat2 := AT.write HR1.out (x := x) Fq
    rw [← ev, ← ey, ← ez] at hat2
    have HA3 := Aside0.mk (show RL F X w0 gp gU gO l b ps (i + 1) c (w5.setCell ⟨gv, v, none⟩ (.int .i64 fz)) from by
     have h := RL.next (d := ((4 : Int), x)) HDi.out HBd.out HRt.out HRun.out HXL.out HXP.out hat2
     rw [show (Play.step red b i ((4 : Int), x) s).count = c from HCnt.out] at h
     exact h)
    clear hat2 Fq ev ey ez hfz HP5 HD5 HP3 HD3 HPut HC9 HVO HR1
    go_wp2
    go_roundw
    case measure => simp [intOf]; omega
    case rel => exact ⟨i + 1, c, by omega, rfl, by go_num, HA3⟩
   ·by_cases k3 : x0 = 3
    ·subst k3
     clear HKind
     have HA2 := Aside0.mk (HAT.out.below (below_alloc (Below.refl _ _) (.cells #[.int .i64 3, .int .i64 x] 46)))
     clear HAT

     obtain ⟨g, hp1, hr1⟩ := HA2.out
     obtain ⟨v, hv⟩ : ∃ v, v = s.hand := ⟨_, rfl⟩
     obtain ⟨_, _, hvl, hlenv, hvm⟩ := HBd.out.cur
     rw [← hv] at hvl hvm
     obtain ⟨gv, vc, hvo, hF⟩ := view_facts hr1.toRep0 (fF_len gU gO) hvl hp1
     obtain ⟨vn, hvn⟩ : ∃ vn, vn = s.views.length := ⟨_, rfl⟩
     rw [← hvn] at hvo hF
     obtain ⟨fy, hfy⟩ : ∃ y, y = F (s.views.getD v []) := ⟨_, rfl⟩
     rw [← hfy] at hF
     have la1 : ((v : Int) < (vn : Int)) = True := eq_true (by omega)
     have hv4 : (v : Int) ≤ 4194304 := by have := HBd.out.views; omega
     have hC11 : ∀ w', PS w0 w' gp (fF gU gO) g → w'.cell? ⟨gp, 4, none⟩ = some (.slice (some ⟨gv, 0, none⟩) vn vc) ∧ w'.cell? ⟨gp, 3, none⟩ = some (.func (.func 23) #[] #[]) ∧ w'.cell? ⟨gv, v, none⟩ = some (.int .i64 fy) := fun w' h => by
      obtain ⟨⟨f1, f2⟩, _⟩ := hF w' h
      exact ⟨f1, (blk_cell h.bp 3).trans rfl, f2⟩
     have hHand : ∀ w', PS w0 w' gp (fF gU gO) g → Calls Tryd.prog 42 #[.pointer (some ⟨gp, 0, none⟩)] w' fun e w'' => e = .returned (.int .i64 (v : Int)) ∧ Drawn0 w' w'' := fun w' h => by
      have := hand_at ⟨g, h, hr1⟩ HBd.out (by omega)
      rw [← hv] at this
      exact this
     have hLook : ∀ w', PS w0 w' gp (fF gU gO) g → Calls Tryd.prog 23 #[.int .i64 fy] w' fun e w'' => e = .returned (.tuple #[]) ∧ AT F w0 w'' gp gU gO (s.read red) := fun w' h => by
      refine (look_calls fy w').mono ?_
      rintro e w'' ⟨rfl, hb⟩
      exact ⟨rfl, AT.read ⟨g, h.below hb, hr1⟩⟩
     have HP2 := Aside0.mk hp1
     have HHand := Aside0.mk hHand
     have HLook := Aside0.mk hLook
     have HC11 := Aside0.mk hC11
     clear hp1 hr1 hHand hLook hC11 hvo hvn hF hfy hvl hlenv hvm hv HA2
     clear k4
     go_upto_region 11 with fail
     generalize wr.alloc (.cells #[.int .i64 3, .int .i64 x] 46) = w2 at HP2 ⊢
     refine start_ (n := 14) (S := (fun w' => w'.cell? ⟨gp, 4, none⟩ = some (.slice (some ⟨gv, 0, none⟩) vn vc) ∧ w'.cell? ⟨gp, 3, none⟩ = some (.func (.func 23) #[] #[]) ∧ w'.cell? ⟨gv, v, none⟩ = some (.int .i64 fy))) (ds := [13]) (lb 14 0) (by kernel_rfl) rfl rfl (HC11.out w2 HP2.out) (fun hHeld => ?_); refine with_tabW R24b_tab R24b_bits (fun HT_ HW_ => ?_)
     have HP3 := Aside0.mk (HP2.out.below (w1 := w2.drew) (Drawn0.below ⟨⟨1, rfl⟩⟩))
     clear HP2
     generalize w2.drew = w3 at HP3 hHeld ⊢
     refine pS 0 53 1 14 HT_.out ?_
     refine pS 1 54 3 14 HT_.out ?_
     refine pS 2 55 7 14 HT_.out ?_
     refine pS 3 56 15 14 HT_.out ?_
     refine tS 4 57 31 14 HT_.out HW_.out hHeld ?_
     refine pS 5 58 63 14 HT_.out ?_
     refine pS 6 59 127 14 HT_.out ?_
     refine pS 7 60 255 14 HT_.out ?_
     refine tS 8 61 511 14 HT_.out HW_.out hHeld ?_
     refine pS 9 62 1023 14 HT_.out ?_
     refine one_ (i := 10) (N := some 63) (lb 14 2047) rfl rfl (one_of HT_.out (by kernel_rfl)) (by decide) (fun K hK => ?_)
     refine goes_ Tryd.func42 (by kernel_rfl) rfl #[.pointer (some ⟨gp, 0, none⟩)] (by rfl) rfl rfl (by (try simp only [List.map_toArray, List.map_cons, List.map_nil]); first | done | rfl) ?_
     with_reducible refine (HHand.out w3 HP3.out).mono ?_
     rintro e w4 ⟨rfl, hdr⟩
     have HP4 := Aside0.mk (HP3.out.below hdr.below)
     clear hdr HP3
     refine ⟨_, rfl, ?_⟩
     refine hK.out _ _ (HC11.out w4 HP4.out) (fun hHeld => ?_)
     clear hK K
     refine norm_ (a' := ?_) ?_ ?_
     rotate_left
     ·show Act.put _ (some 63) _ = _
      simp only [Act.put, sI, sZ, sC, i64_w, i32_w]
      rfl
     refine pS 11 64 4095 14 HT_.out ?_
     refine tS 12 65 8191 14 HT_.out HW_.out hHeld ?_
     refine last_ (i := 13) (N := some 66) (lb 14 16383) rfl rfl (one_of HT_.out (by kernel_rfl)) (by decide) (fun K hK => ?_)
     refine goesC_ Tryd.func23 (by kernel_rfl) rfl #[.int .i64 fy] (by rfl) rfl rfl rfl (by (try simp only [List.map_toArray, List.map_cons, List.map_nil]); first | done | rfl) ?_
     with_reducible refine (HLook.out w4 HP4.out).mono ?_
     rintro e w5 ⟨rfl, hat⟩
     have HA := Aside0.mk hat
     clear hat
     refine ⟨_, rfl, ?_⟩
     refine hK.out _ _ ?_
     clear hK K
     refine norm_ (a' := ?_) ?_ ?_
     rotate_left
     ·show Act.put _ (some 66) _ = _
      simp only [Act.put, sI, sZ, sC, i64_w, i32_w]
      rfl
     refine done_ (done_of HT_.out (by kernel_rfl)) ?_
     clear HT_ HW_ hHeld

     have HA3 := Aside0.mk (show RL F X w0 gp gU gO l b ps (i + 1) c w5 from by
      have h := RL.next (d := ((3 : Int), x)) HDi.out HBd.out HRt.out HRun.out HXL.out HXP.out HA.out
      rw [show (Play.step red b i ((3 : Int), x) s).count = c from HCnt.out] at h
      exact h)
     clear HA HP4 HHand HLook HC11
     go_wp2
     go_roundw
     case measure => simp [intOf]; omega
     case rel => exact ⟨i + 1, c, by omega, rfl, by go_num, HA3⟩
    ·by_cases k0 : x0 = 0
     ·subst k0
      clear HKind
      have HA2 := Aside0.mk (HAT.out.below (below_alloc (Below.refl _ _) (.cells #[.int .i64 0, .int .i64 x] 46)))
      clear HAT

      clear k4 k3
      obtain ⟨g, hp1, hr1⟩ := HA2.out
      obtain ⟨v, hvv⟩ : ∃ v, v = s.hand := ⟨_, rfl⟩
      obtain ⟨_, _, hvl, hlenv, hvm⟩ := HBd.out.cur
      rw [← hvv] at hvl hvm
      have hv4 : (v : Int) ≤ 4194304 := by have := HBd.out.views; omega
      obtain ⟨⟨rA, rn, rc⟩, hro⟩ : ∃ t : Sl, g.ro = t := ⟨_, rfl⟩
      have hC13 : ∀ w', PS w0 w' gp (fF gU gO) g → w'.cell? ⟨gp, 5, none⟩ = some (.slice rA rn rc) := fun w' h => by
       have h1 := (h.cell (fF_len gU gO)).2.1
       rw [hro] at h1
       exact h1
      have hO13 : ∀ w', PS w0 w' gp (fF gU gO) g → Kd.R kSl 24 w' w0.heap.size (fun b_ => (Value.slice rA rn rc).ownBlock = some b_ ∨ w'.heap.size ≤ b_) (.slice rA rn rc) g.oh := fun w' h => by
       have h2 := Fam.R (h1 := slv_one) h.f24 (List.mem_singleton.2 rfl)
       rw [hro] at h2
       exact Kd.R_mono h2 (fun b hb => .inl hb)
      have hM13 : ∀ w' w1 (t1 t2 : Sl) (ok : Nat → Prop), PS w0 w' gp (fF gU gO) g → Fam (Value.int .i64) 3 w' w0.heap.size ((g.rs.map hv ++ [hv g.sp]) ++ [(slv t1, [(v : Int)])]) → Kd.R kSl 24 w1 w0.heap.size ok (slv t2) (g.oh ++ [t1]) → Below w0.heap.size w0 w1 → w'.grownBy w1 (Value.slice rA rn rc).ownBlock → ((slv t2).ownBlock = (Value.slice rA rn rc).ownBlock ∨ ∃ b, (slv t2).ownBlock = some b ∧ w'.heap.size ≤ b) →
        PS w0 (w1.setCell ⟨gp, 5, none⟩ (slv t2)) gp (fF gU gO) { g with rs := g.rs ++ [(t1, [(v : Int)])], oh := g.oh ++ [t1], ro := t2 } := fun w' w1 t1 t2 ok h hf3 ho hb hg hat =>
       h.row_new (fF_len gU gO) hf3 ho hb (by rw [hro]; exact hg) (by rw [hro]; exact hat)
      have hT13 : ∀ w' w1, PS w0 w' gp (fF gU gO) g → w'.grownBy w1 (Value.slice rA rn rc).ownBlock → w1.cell? ⟨gp, 5, none⟩ = some (.slice rA rn rc) ∧ w1.frozen? ⟨gp, 5, none⟩ = false := fun w' w1 h hg => by
       have e1 : w1.heap[gp]? = w'.heap[gp]? := hg.block gp (blk_lt h.bp) (fun e => by
        obtain ⟨cells, h2⟩ := own_typed (h.f24.own _ (List.mem_singleton.2 rfl)) gp (by show (slv g.ro).ownBlock = _; rw [hro]; exact e.symm)
        rw [h.bp] at h2
        injection h2 with h2
        injection h2 with _ h2
        exact absurd h2 (by decide))
       exact ⟨(World.cell?_of_block e1).trans (hC13 w' h), (World.frozen?_of_block e1).trans (blk_frozen h.bp 5)⟩
      have hHand : ∀ w', PS w0 w' gp (fF gU gO) g → Calls Tryd.prog 42 #[.pointer (some ⟨gp, 0, none⟩)] w' fun e w'' => e = .returned (.int .i64 (v : Int)) ∧ Drawn0 w' w'' := fun w' h => by
       have := hand_at ⟨g, h, hr1⟩ HBd.out (by omega)
       rw [← hvv] at this
       exact this
      obtain ⟨⟨qA, qn, qc⟩, hsp⟩ : ∃ t : Sl, g.sp.1 = t := ⟨_, rfl⟩
      have hspl : g.sp.2.length ≤ 4096 := by rw [hr1.sp, ints_length, List.length_reverse]; have := HBd.out.spawns; omega
      have HSP := Aside0.mk hsp
      have HSPL := Aside0.mk hspl
      have HP2 := Aside0.mk hp1
      have HR1 := Aside0.mk hr1
      have HV := Aside0.mk hvv
      have HHand := Aside0.mk hHand
      have HC13 := Aside0.mk hC13
      have HO13 := Aside0.mk hO13
      have HM13 := Aside0.mk hM13
      have HT13 := Aside0.mk hT13
      have HOL := Aside0.mk (show g.oh.length ≤ 100000 by rw [hr1.oh, List.length_map, hr1.rows_len]; have := HBd.out.up; omega)
      clear hp1 hr1 hHand hC13 hO13 hM13 hT13 hro hvl hlenv hvm hvv HA2 hsp hspl
      go_upto_region 13 with fail
      generalize wr.alloc (.cells #[.int .i64 0, .int .i64 x] 46) = w2 at HP2 ⊢
      refine start_ (n := 13) (S := (fun w' => w'.cell? ⟨gp, 5, none⟩ = some (.slice rA rn rc))) (ds := [12]) (lb 13 0) (by kernel_rfl) rfl rfl (HC13.out w2 HP2.out) (fun hHeld => ?_); refine with_tabW R24c_tab R24c_bits (fun HT_ HW_ => ?_)
      have HP3 := Aside0.mk (HP2.out.below (w1 := w2.drew) (Drawn0.below ⟨⟨1, rfl⟩⟩))
      clear HP2
      generalize w2.drew = w3 at HP3 hHeld ⊢
      refine pS 0 69 1 13 HT_.out ?_
      refine pS 1 70 3 13 HT_.out ?_
      refine pS 2 71 7 13 HT_.out ?_
      refine pS 3 72 15 13 HT_.out ?_
      refine tS 4 73 31 13 HT_.out HW_.out hHeld ?_
      refine pS 5 74 63 13 HT_.out ?_
      refine one_ (i := 6) (N := some 75) (lb 13 127) rfl rfl (one_of HT_.out (by kernel_rfl)) (by decide) (fun K hK => ?_)
      refine goes_ Tryd.func42 (by kernel_rfl) rfl #[.pointer (some ⟨gp, 0, none⟩)] (by rfl) rfl rfl (by (try simp only [List.map_toArray, List.map_cons, List.map_nil]); first | done | rfl) ?_
      with_reducible refine (HHand.out w3 HP3.out).mono ?_
      rintro e w4 ⟨rfl, hdr⟩
      have HP4 := Aside0.mk (HP3.out.below hdr.below)
      clear hdr HP3
      refine ⟨_, rfl, ?_⟩
      refine hK.out _ _ (HC13.out w4 HP4.out) (fun hHeld => ?_)
      clear hK K
      refine norm_ (a' := ?_) ?_ ?_
      rotate_left
      ·show Act.put _ (some 75) _ = _
       simp only [Act.put, sI, sZ, sC, i64_w, i32_w]
       rfl
      refine one_ (i := 7) (N := some 76) (lb 13 255) rfl rfl (one_of HT_.out (by kernel_rfl)) (by decide) (fun K hK => ?_)
      refine value_ (w1 := ?_) (v := ?_) (by rfl) rfl ?_ ?_
      rotate_left 2
      ·go_simp
       constructor
       ·rfl
       ·rfl
      refine hK.out _ _ (HC13.out _ (HP4.out.row_lit (v : Int)).1) (fun hHeld => ?_)
      clear hK K
      refine norm_ (a' := ?_) ?_ ?_
      rotate_left
      ·show Act.put _ (some 76) _ = _
       simp only [Act.put, sI, sZ, sC, i64_w, i32_w]
       rfl
      have HP5 := Aside0.mk (HP4.out.row_lit (v : Int))
      clear HP4
      obtain ⟨bk, hbb⟩ : ∃ bk, w4.heap.size = bk := ⟨_, rfl⟩
      rw [hbb] at HP5 ⊢
      generalize w4.alloc (.cells #[.int .i64 (v : Int)] 3) = w5 at HP5 hHeld ⊢
      clear hbb
      refine one_ (i := 8) (N := some 77) (lb 13 511) rfl rfl (one_of HT_.out (by kernel_rfl)) (by decide) (fun K hK => ?_)
      refine value_ (w1 := ?_) (v := ?_) (by rfl) rfl ?_ ?_
      rotate_left 2
      ·go_simp
       constructor
       ·rfl
       ·rfl
      refine hK.out _ _ (HC13.out _ (HP5.out.1.below (below_alloc (Below.refl _ _) _))) (fun hHeld => ?_)
      clear hK K
      refine norm_ (a' := ?_) ?_ ?_
      rotate_left
      ·show Act.put _ (some 77) _ = _
       simp only [Act.put, sI, sZ, sC, i64_w, i32_w]
       rfl
      refine one_ (i := 9) (N := some 78) (lb 13 1023) rfl rfl (one_of HT_.out (by kernel_rfl)) (by decide) (fun K hK => ?_)
      refine Kd.R_append_step kSl (w0 := w0) w0.heap.size (by rfl) (.tmp 73) (.tmp 77) 59 24 (.slice none 0 0) 24 rfl Tryd.underlying59 info24 rfl (by decide) (by omega) (.slice rA rn rc) g.oh (some ⟨bk, 0, none⟩, 1, 1) [.slice (some ⟨bk, 0, none⟩) 1 1] (fun b_ => (Value.slice rA rn rc).ownBlock = some b_ ∨ w5.heap.size ≤ b_) (fun _ => False) rfl rfl ?aP (fun _ hk => hk.elim) ?aF ?aO ?aB ?aS ?aL ?_
      (case aP => exact rfl)
      (case aB => exact HP5.out.1.hb)
      (case aF => exact (fun k_ hk => .inr hk))
      (case aO => exact HO13.out w5 HP5.out.1)
      (case aS => exact (below_size HP5.out.1.hb))
      (case aL => have := HOL.out; omega)
      intro v2 w9 ho hb hg hat
      obtain ⟨A2, c2, rfl, _, _⟩ := Kd.R_reads ho
      have HG := Aside0.mk (HM13.out w5 w9 (some ⟨bk, 0, none⟩, 1, 1) (A2, _, c2) _ HP5.out.1 HP5.out.2 ho hb hg hat)
      have hT := HT13.out w5 w9 HP5.out.1 hg
      clear ho hb hg hat
      refine hK.out _ _ hT.1 (fun hHeld => ?_)
      clear hK K
      refine norm_ (a' := ?_) ?_ ?_
      rotate_left
      ·show Act.put _ (some 78) _ = _
       simp only [Act.put, sI, sZ, sC, i64_w, i32_w]
       rfl
      refine pS 10 79 2047 13 HT_.out ?_
      refine pS 11 80 4095 13 HT_.out ?_
      have hfz := hT.2
      refine last_ (i := 12) (N := none) (lb 13 8191) rfl rfl (one_of HT_.out (by kernel_rfl)) (by decide) (fun K hK => ?_)
      refine skip_ (w1 := ?_) (by rfl) rfl ?_ ?_
      rotate_left
      ·go_simp
       rfl
      refine hK.out _ _ ?_
      clear hK K
      refine done_ (done_of HT_.out (by kernel_rfl)) ?_
      clear HT_ HW_ hHeld

      have Fq := HG.out
      rw [show (g.oh ++ [(((some ⟨bk, 0, none⟩, 1, 1)) : Sl)]).length = g.oh.length + 1 from by simp] at Fq
      replace Fq : PS w0 (w9.setCell ⟨gp, 5, none⟩ (.slice A2 (g.oh.length + 1) c2)) gp (fF gU gO) { g with rs := g.rs ++ [((some ⟨bk, 0, none⟩, 1, 1), [(v : Int)])], oh := g.oh ++ [(some ⟨bk, 0, none⟩, 1, 1)], ro := (A2, g.oh.length + 1, c2) } := Fq
      have HP6 := Aside0.mk Fq
      clear Fq HG hT hfz HP5 HM13 HT13 HO13 HC13 HHand HOL
      generalize w9.setCell ⟨gp, 5, none⟩ (.slice A2 (g.oh.length + 1) c2) = w10 at HP6 ⊢
      obtain ⟨hq1, hq2⟩ : w10.cell? ⟨gp, 6, none⟩ = some (.slice qA qn qc) ∧ w10.frozen? ⟨gp, 6, none⟩ = false := by
       have h1 := (HP6.out.cell (fF_len gU gO)).2.2.1
       replace h1 : w10.cell? ⟨gp, 6, none⟩ = some (slv g.sp.1) := h1
       rw [HSP.out] at h1
       exact ⟨h1, blk_frozen HP6.out.bp 6⟩
      have hRq : Kd.R (Kd.int .i64) 3 w10 w0.heap.size (fun _ => True) (.slice qA qn qc) g.sp.2 := by
       have hm := List.mem_iff_getElem?.2 ⟨_, PS.sp_at { g with rs := g.rs ++ [((some ⟨bk, 0, none⟩, 1, 1), [(v : Int)])], oh := g.oh ++ [(some ⟨bk, 0, none⟩, 1, 1)], ro := (A2, g.oh.length + 1, c2) }⟩
       have h1 := Kd.R_mono (Fam.R (h1 := fun _ => rfl) HP6.out.f3 hm) (fun _ _ => trivial)
       replace h1 : Kd.R (Kd.int .i64) 3 w10 w0.heap.size (fun _ => True) (slv g.sp.1) g.sp.2 := h1
       rw [HSP.out] at h1
       exact h1
      have HRQ := Aside0.mk hRq
      have hTq : ∀ w1, w10.grownBy w1 (Value.slice qA qn qc).ownBlock → w1.cell? ⟨gp, 6, none⟩ = some (.slice qA qn qc) ∧ w1.frozen? ⟨gp, 6, none⟩ = false := fun w1 hg => by
       have e1 : w1.heap[gp]? = w10.heap[gp]? := hg.block gp (blk_lt HP6.out.bp) (fun e => by
        obtain ⟨cells, h2⟩ := Kd.R_typed hRq gp e.symm
        rw [HP6.out.bp] at h2
        injection h2 with h2
        injection h2 with _ h2
        exact absurd h2 (by decide))
       exact ⟨(World.cell?_of_block e1).trans hq1, (World.frozen?_of_block e1).trans hq2⟩
      have HTq := Aside0.mk hTq
      clear hRq hTq
      go_wp2_with (first | ((with_reducible refine gate_builtin (b := .append) (xs := #[.tmp 85, .tmp 87]) rfl ?_); at_builtin; refine Kd.R_append (Kd.int .i64) (w0 := w0) w0.heap.size rfl (.tmp 85) (.tmp 87) 24 3 (.int .i64 0) 8 rfl Tryd.underlying24 info3 rfl (by decide) (by omega) (.slice qA qn qc) g.sp.2 (c : Int) [.int .i64 (c : Int)] (fun _ => True) (fun _ => False) rfl rfl ?aP (fun _ hk => hk.elim) ?aF ?aO ?aB ?aS ?aL ?_; (case aP => exact rfl); (case aB => exact HP6.out.hb); (case aF => exact (fun _ _ => trivial)); (case aO => exact HRQ.out); (case aS => exact (below_size HP6.out.hb)); (case aL => have := HSPL.out; omega); intro v103 w11 ho hb hg hat; obtain ⟨A3, c3, rfl, _, _⟩ := Kd.R_reads ho; obtain ⟨hz1, hz2⟩ := HTq.out w11 hg; have HG3 := Aside0.mk (And.intro ho (And.intro hb (And.intro hg hat))); clear ho hb hg hat))
      have Fq := HP6.out.sp_grew (fF_len gU gO) (t1 := (A3, (g.sp.2 ++ [(c : Int)]).length, c3)) (xs1 := g.sp.2 ++ [(c : Int)]) HG3.out.1 HG3.out.2.1 (by show w10.grownBy w11 (slv g.sp.1).ownBlock; rw [HSP.out]; exact HG3.out.2.2.1) (by show _ = (slv g.sp.1).ownBlock ∨ _; rw [HSP.out]; exact HG3.out.2.2.2)
      rw [show (g.sp.2 ++ [(c : Int)]).length = g.sp.2.length + 1 from by simp] at Fq
      rw [HV.out, ← HCnt.out] at Fq
      have hat2 := AT.spawn HR1.out Fq
      have HA3 := Aside0.mk (show RL F X w0 gp gU gO l b ps (i + 1) (c + 1) _ from by
       have h := RL.next (d := ((0 : Int), x)) HDi.out HBd.out HRt.out HRun.out HXL.out HXP.out hat2
       rw [show (Play.step red b i ((0 : Int), x) s).count = c + 1 from by rw [← HCnt.out]; rfl] at h
       exact h)
      clear hat2 Fq HG3 HP6 HRQ HTq hq1 hq2 hz1 hz2 HV HR1 HSP HSPL
      go_wp2
      go_roundw
      case measure => simp [intOf]; omega
      case rel => exact ⟨i + 1, c + 1, by omega, by go_num, by go_num, HA3⟩
     ·by_cases k2 : x0 = 2
      ·subst k2
       clear HKind k4 k3 k0
       go_wp2_with fail
       have HA2 := Aside0.mk (HAT.out.below (below_alloc (Below.refl _ _) (.cells #[.int .i64 2, .int .i64 x] 46)))
       refine (merge_at HA2.out HFn.out HXL.out HBd.out (by omega) i).mono ?_
       rintro e w2 ⟨rfl, hat2⟩
       have HA3 := Aside0.mk (show RL F X w0 gp gU gO l b ps (i + 1) c w2 from by
        have h := RL.next (d := ((2 : Int), x)) HDi.out HBd.out HRt.out HRun.out HXL.out HXP.out hat2
        rw [show (Play.step red b i ((2 : Int), x) s).count = c from HCnt.out] at h
        exact h)
       clear hat2 HA2 HAT
       go_wp2
       go_roundw
       case measure => simp [intOf]; omega
       case rel => exact ⟨i + 1, c, by omega, rfl, by go_num, HA3⟩
      ·obtain rfl : x0 = 1 := by have := HKind.out; simp only at this; omega
       clear HKind
       have HA2 := Aside0.mk (HAT.out.below (below_alloc (Below.refl _ _) (.cells #[.int .i64 1, .int .i64 x] 46)))
       clear HAT

       clear k4 k3 k0 k2
       have hu : s.up ≠ [] := List.ne_nil_of_length_pos (HUp.out rfl)
       obtain ⟨sn, hsn⟩ : ∃ sn, s.spawns.length = sn + 1 := ⟨s.spawns.length - 1, by have := HBd.out.inv.spawns; have := HUp.out rfl; omega⟩
       have hsn4 : (sn : Int) ≤ 4194304 := by have := HBd.out.spawns; omega
       have HSn := Aside0.mk hsn
       have HU := Aside0.mk hu
       clear hsn hu
       go_wp2_with fail
       refine (merge_at HA2.out HFn.out HXL.out HBd.out (by omega) i).mono ?_
       rintro e w2 ⟨rfl, hat2⟩
       have HA3 := Aside0.mk hat2
       clear hat2 HA2
       go_wp2_with fail
       refine (leave_at HA3.out (by show s.up.length ≤ _; have := HBd.out.up; omega) HU.out).mono ?_
       rintro e w4 ⟨rfl, hat3⟩
       clear HA3
       obtain ⟨g, hp4, hr4⟩ := hat3
       obtain ⟨gs, sc1, hsp, hcap, hF⟩ := spawn_facts hr4.toRep0 (fF_len gU gO) (sn := sn) HSn.out hp4
       obtain ⟨kk, hkk⟩ : ∃ kk, kk = s.spawns.headD 0 := ⟨_, rfl⟩
       have hF2 : ∀ w', PS w0 w' gp (fF gU gO) g → w'.cell? ⟨gp, 6, none⟩ = some (.slice (some ⟨gs, 0, none⟩) (sn + 1) sc1) ∧ w'.cell? ⟨gs, sn, none⟩ = some (.int .i64 (kk : Int)) := fun w' h => by
        rw [hkk]
        exact hF w' h
       have HC21 := Aside0.mk hF2
       have HP4 := Aside0.mk hp4
       have HR4 := Aside0.mk hr4
       have HSP := Aside0.mk hsp
       have HKK := Aside0.mk hkk
       clear hp4 hr4 hsp hF hF2 hkk
       have HWS := Aside0.mk (And.intro (show wrap64 ((sn : Int) + 1 - 1) = (sn : Int) by rw [BitMath.wrap_id (by unfold BitMath.In64; omega)]; omega) (show wrap64 (sn : Int) = (sn : Int) from BitMath.wrap_id (by unfold BitMath.In64; omega)))
       have ls1 : ((sn : Int) < (sn : Int) + 1) = True := eq_true (by omega)
       have ls2 : (sn ≤ sc1) = True := eq_true (by omega)
       go_upto_region 21 with fail
       obtain ⟨hw1, hw3⟩ := HWS.out
       refine start_ (n := 13) (S := (fun w' => w'.cell? ⟨gp, 6, none⟩ = some (.slice (some ⟨gs, 0, none⟩) (sn + 1) sc1) ∧ w'.cell? ⟨gs, sn, none⟩ = some (.int .i64 (kk : Int)))) (ds := [12]) (lb 13 0) (by kernel_rfl) rfl rfl (HC21.out w4 HP4.out) (fun hHeld => ?_); refine with_tabW R24d_tab R24d_bits (fun HT_ HW_ => ?_)
       have HP5 := Aside0.mk (HP4.out.below (w1 := w4.drew) (Drawn0.below ⟨⟨1, rfl⟩⟩))
       clear HP4
       generalize w4.drew = w5 at HP5 hHeld ⊢
       refine pS 0 105 1 13 HT_.out ?_
       refine pS 1 106 3 13 HT_.out ?_
       refine pS 2 107 7 13 HT_.out ?_
       refine tS 3 108 15 13 HT_.out HW_.out hHeld ?_
       refine pS 4 109 31 13 HT_.out ?_
       refine pS 5 110 63 13 HT_.out ?_
       refine pS 6 111 127 13 HT_.out ?_
       refine tS 7 112 255 13 HT_.out HW_.out hHeld ?_
       refine pS 8 113 511 13 HT_.out ?_
       refine pS 9 114 1023 13 HT_.out ?_
       refine pS 10 115 2047 13 HT_.out ?_
       refine tS 11 116 4095 13 HT_.out HW_.out hHeld ?_
       refine pS 12 10 8191 13 HT_.out ?_
       refine done_ (done_of HT_.out (by kernel_rfl)) ?_
       clear HT_ HW_ hHeld

       clear hw1 hw3
       go_upto_region 22 with fail
       obtain ⟨hw1, hw3⟩ := HWS.out
       refine start_ (n := 15) (S := (fun w' => w'.cell? ⟨gp, 6, none⟩ = some (.slice (some ⟨gs, 0, none⟩) (sn + 1) sc1))) (ds := [14]) (lb 15 0) (by kernel_rfl) rfl rfl (HC21.out w5 HP5.out).1 (fun hHeld => ?_); refine with_tabW R24e_tab R24e_bits (fun HT_ HW_ => ?_)
       have HP6 := Aside0.mk (HP5.out.below (w1 := w5.drew) (Drawn0.below ⟨⟨1, rfl⟩⟩))
       clear HP5
       generalize w5.drew = w6 at HP6 hHeld ⊢
       refine pS 0 117 1 15 HT_.out ?_
       refine pS 1 118 3 15 HT_.out ?_
       refine pS 2 119 7 15 HT_.out ?_
       refine pS 3 120 15 15 HT_.out ?_
       refine tS 4 121 31 15 HT_.out HW_.out hHeld ?_
       refine pS 5 122 63 15 HT_.out ?_
       refine pS 6 123 127 15 HT_.out ?_
       refine pS 7 124 255 15 HT_.out ?_
       refine tS 8 125 511 15 HT_.out HW_.out hHeld ?_
       refine pS 9 126 1023 15 HT_.out ?_
       refine pS 10 127 2047 15 HT_.out ?_
       refine pS 11 128 4095 15 HT_.out ?_
       refine pS 12 129 8191 15 HT_.out ?_
       refine pS 13 130 16383 15 HT_.out ?_
       have hfz := blk_frozen HP6.out.bp 6
       refine last_ (i := 14) (N := none) (lb 15 32767) rfl rfl (one_of HT_.out (by kernel_rfl)) (by decide) (fun K hK => ?_)
       refine skip_ (w1 := ?_) (by rfl) rfl ?_ ?_
       rotate_left
       ·go_simp
        rfl
       refine hK.out _ _ ?_
       clear hK K
       refine done_ (done_of HT_.out (by kernel_rfl)) ?_
       clear HT_ HW_ hHeld

       clear hw1 hw3
       have Fq := HP6.out.sp_cut (fF_len gU gO) HSP.out sn (by omega)
       have hat4 := AT.cut HR4.out (sn := sn) HSn.out Fq
       have HA4 := Aside0.mk hat4
       clear Fq hat4 hfz HP6 HR4 HC21 HSP
       generalize w6.setCell ⟨gp, 6, none⟩ (.slice (some ⟨gs, 0, none⟩) sn sc1) = w7 at HA4 ⊢
       obtain ⟨s2, hs2⟩ : ∃ s2, s2 = { (s.merge red i).leave with spawns := (s.merge red i).spawns.tail } := ⟨_, rfl⟩
       replace HA4 : Aside0 (AT F w0 w7 gp gU gO s2) := by rw [hs2]; exact HA4
       have hstep : Play.step red b i ((1 : Int), x) s = if b.getD kk false = true then St.made red s2 else s2 := by rw [hs2, HKK.out]; rfl
       have hcnt2 : s2.count = c := by rw [hs2]; exact HCnt.out
       have hbd2 : s2.up.length ≤ 100000 ∧ s2.views.length ≤ 100000 ∧ s2.cur.length ≤ 100000 := by
        obtain ⟨hm1, y, _, hcur, hvl, _⟩ := HBd.out.inv.merge i
        have h1 := HBd.out.up
        have h2 := HBd.out.views
        rw [hs2]
        refine ⟨by show s.up.tail.length ≤ _; rw [List.length_tail]; omega, by show (s.merge red i).views.length ≤ _; omega, ?_⟩
        show (s.up.headD []).length ≤ _
        obtain ⟨r, up, e⟩ := List.exists_cons_of_ne_nil HU.out
        have hi2 := (hm1.leave hcur (r := r) (up := up) (show (s.merge red i).up = r :: up from e) s.spawns (by have := HBd.out.inv.spawns; rw [e] at this; simp at this; omega)).count
        have hb3 := hm1.leave hcur (r := r) (up := up) (show (s.merge red i).up = r :: up from e) s.spawns (by have := HBd.out.inv.spawns; rw [e] at this; simp at this; omega)
        obtain ⟨pre, _, epre⟩ := hb3.mi
        rw [epre, List.length_append] at hi2
        rw [e]
        replace hi2 : (s.merge red i).merges.length + (pre.length + ((s.merge red i).up.headD []).length) = (s.merge red i).views.length := hi2
        rw [show (s.merge red i).up = r :: up from e] at hi2
        omega
       have HStep := Aside0.mk hstep
       have HCn2 := Aside0.mk hcnt2
       have HBd2 := Aside0.mk hbd2
       clear hstep hcnt2 hbd2 hs2
       by_cases hkb : kk < bn
       ·have hcb : Kd.C Kd.bool w7 sA b.length b := by
         obtain ⟨g, hp, _⟩ := HA4.out
         exact Kd.C_below HS.out hp.hb
        obtain ⟨sad, es, hxb⟩ := Kd.at_bool hcb (kk : Int) (by omega) (by rw [HBN.out]; omega)
        cases es
        rw [Int.toNat_natCast] at hxb
        have dk : decide (kk < bn) = true := decide_eq_true hkb
        have dk2 : decide ((kk : Int) < (bn : Int)) = true := decide_eq_true (by omega)
        have lk : ((kk : Int) < (bn : Int)) = True := eq_true (by omega)
        have ek : rdOf false b (kk : Int) = b.getD kk false := by unfold rdOf; rw [Int.toNat_natCast]
        by_cases hbk : b.getD kk false = true
        ·rw [ek, hbk] at hxb
         have HBK := Aside0.mk hbk
         clear hbk ek hcb
         go_wp2_with fail
         refine (made_at HA4.out HFn.out HBd2.out.1 HBd2.out.2.1 HBd2.out.2.2).mono ?_
         rintro e w8 ⟨rfl, hat5⟩
         have HA3 := Aside0.mk (show RL F X w0 gp gU gO l b ps (i + 1) c w8 from by
          have hs := HStep.out
          rw [if_pos HBK.out] at hs
          have h := RL.next (d := ((1 : Int), x)) HDi.out HBd.out HRt.out HRun.out HXL.out HXP.out (by rw [hs]; exact hat5)
          rw [hs, show (St.made red s2).count = c from HCn2.out] at h
          exact h)
         clear hat5 HA4 hxb HBd2
         go_wp2
         go_roundw
         case measure => simp [intOf]; omega
         case rel => exact ⟨i + 1, c, by omega, rfl, by go_num, HA3⟩
        ·have hbk2 : b.getD kk false = false := by simpa using hbk
         rw [ek, hbk2] at hxb
         have HA3 := Aside0.mk (show RL F X w0 gp gU gO l b ps (i + 1) c w7 from by
          have hs := HStep.out
          rw [if_neg hbk] at hs
          have h := RL.next (d := ((1 : Int), x)) HDi.out HBd.out HRt.out HRun.out HXL.out HXP.out (by rw [hs]; exact HA4.out)
          rw [hs, HCn2.out] at h
          exact h)
         clear hbk hbk2 ek hcb HA4
         go_wp2
         go_roundw
         case measure => simp [intOf]; omega
         case rel => exact ⟨i + 1, c, by omega, rfl, by go_num, HA3⟩
       ·have hbk : ¬ b.getD kk false = true := by
         rw [List.getD_eq_getElem?_getD, List.getElem?_eq_none (by rw [HBN.out]; omega)]
         simp
        have dk : decide (kk < bn) = false := decide_eq_false hkb
        have dk2 : decide ((kk : Int) < (bn : Int)) = false := decide_eq_false (by omega)
        have HA3 := Aside0.mk (show RL F X w0 gp gU gO l b ps (i + 1) c w7 from by
         have hs := HStep.out
         rw [if_neg hbk] at hs
         have h := RL.next (d := ((1 : Int), x)) HDi.out HBd.out HRt.out HRun.out HXL.out HXP.out (by rw [hs]; exact HA4.out)
         rw [hs, HCn2.out] at h
         exact h)
        clear hbk HA4
        go_wp2
        go_roundw
        case measure => simp [intOf]; omega
        case rel => exact ⟨i + 1, c, by omega, rfl, by go_num, HA3⟩
  ·obtain rfl : i = n := by omega
   obtain ⟨s, hcount, hat, ⟨L, hB, hXL⟩, hrt, hrun⟩ := HRL.out
   have HXL := Aside0.mk hXL
   clear hXL
   have hdl : decide ((i : Int) < (i : Int)) = false := decide_eq_false (by omega)
   rw [List.drop_eq_nil_of_le (by rw [HLen.out, HN.out]; omega)] at hrun
   replace hrun : s = run red b 0 (l.map dd) (Play.start red ps) := hrun
   have HPl := Aside0.mk (show finish red i s.up.length s = play red b ps (l.map dd) by unfold play; rw [← hrun, HLen.out, HN.out])
   have HAT := Aside0.mk hat
   have HBd := Aside0.mk hB
   clear hat hB hrun hrt hcount HRL hlt
   go_wp2_with fail
   refine (merge_at HAT.out HFn.out HXL.out HBd.out (by omega) i).mono ?_
   rintro e w2 ⟨rfl, hat2⟩
   clear HXl
   have HE := Aside0.mk (show ∃ s', s'.up.length < s.up.length + 1 ∧ AT F w0 w2 gp gU gO s' ∧ (∃ L, Bd i s' L ∧ ∀ y, y ∈ L → X y) ∧ (∃ y, s'.cur = [y]) ∧ fin i s' = play red b ps (l.map dd) from by
    obtain ⟨_, y, _, hcur, _⟩ := HBd.out.inv.merge i
    exact ⟨s.merge red i, by show s.up.length < _; omega, hat2, ⟨_, HBd.out.merge i, HXL.out⟩, ⟨y, hcur⟩, by rw [fin_merge]; exact HPl.out⟩)
   clear hat2 HAT HPl
   obtain ⟨K0, hK0⟩ : ∃ K0, K0 = s.up.length + 1 := ⟨_, rfl⟩
   rw [← hK0] at HE
   clear hK0
   go_wp2
   go_loopg [158] K0 (fun kq v158 w' => Aside0 (∃ s', s'.up.length < kq ∧ AT F w0 w' gp gU gO s' ∧ (∃ L, Bd i s' L ∧ ∀ y, y ∈ L → X y) ∧ (∃ y, s'.cur = [y]) ∧ fin i s' = play red b ps (l.map dd)))
   case atStart => exact HE
   case round =>
    clear HE
    have HE := hrel
    clear hrel
    obtain ⟨s', hk, hat, ⟨L', hB, hXL⟩, ⟨y, hcur⟩, hfin⟩ := HE.out
    have HXL := Aside0.mk hXL
    clear hXL
    clear HE
    obtain ⟨g, hp, hr⟩ := hat
    have hx5 := (hp.cell (fF_len gU gO)).2.1
    obtain ⟨⟨rA, rn, rc⟩, hro⟩ : ∃ t : Sl, g.ro = t := ⟨_, rfl⟩
    obtain ⟨m, hm⟩ : ∃ m, m = s'.up.length := ⟨_, rfl⟩
    have hrn : rn = m + 1 := by
     have h2 := Fam.R (h1 := slv_one) hp.f24 (List.mem_singleton.2 rfl)
     rw [hro] at h2
     have h3 : rn = g.oh.length := (Kd.R_reads' h2).1
     rw [h3, hr.oh, List.length_map, hr.rows_len, hm]
    rw [hro] at hx5
    subst hrn
    replace hx5 : wr.cell? ⟨gp, 5, none⟩ = some (.slice rA (m + 1) rc) := hx5
    have hm4 : (m : Int) ≤ 4096 := by have := hB.up; omega
    by_cases hm0 : m = 0
    ·subst hm0
     have HF := Aside0.mk (show AT F w0 wr gp gU gO (play red b ps (l.map dd)) from by
      rw [← hfin]
      unfold fin
      rw [← hm]
      exact ⟨g, hp, hr⟩)
     clear hp hr hB hcur hfin hm hro hk
     go_wp2
     go_end0
     exact ⟨rfl, HF.out⟩
    ·have d1 : decide (1 < m + 1) = true := decide_eq_true (by omega)
     have d2 : decide ((1 : Int) < (m : Int) + 1) = true := decide_eq_true (by omega)
     have hu : s'.up ≠ [] := List.ne_nil_of_length_pos (by omega)
     have HAT := Aside0.mk (show AT F w0 wr gp gU gO s' from ⟨g, hp, hr⟩)
     have HB3 := Aside0.mk hB
     have HCur := Aside0.mk hcur
     have HU := Aside0.mk hu
     have HFin := Aside0.mk hfin
     have HMM := Aside0.mk (And.intro hm hk)
     clear hp hr hB hcur hfin hm hro hk hu
     go_wp2_with fail
     refine (leave_at HAT.out (by have := HB3.out.up; omega) HU.out).mono ?_
     rintro e w3 ⟨rfl, hat3⟩
     have HL := Aside0.mk hat3
     clear hat3 HAT
     have HBL := Aside0.mk (show Bd i s'.leave L' from by
      obtain ⟨r, up, e⟩ := List.exists_cons_of_ne_nil HU.out
      exact HB3.out.leave HCur.out e)
     go_wp2_with fail
     refine (merge_at HL.out HFn.out HXL.out HBL.out (by omega) i).mono ?_
     rintro e w4 ⟨rfl, hat4⟩
     have HE := Aside0.mk (show ∃ s', s'.up.length < m ∧ AT F w0 w4 gp gU gO s' ∧ (∃ L, Bd i s' L ∧ ∀ y, y ∈ L → X y) ∧ (∃ y, s'.cur = [y]) ∧ fin i s' = play red b ps (l.map dd) from by
      obtain ⟨_, y2, _, hcur2, _⟩ := HBL.out.inv.merge i
      have e1 : s'.leave.up.length = m - 1 := by show s'.up.tail.length = _; rw [List.length_tail, ← HMM.out.1]
      refine ⟨s'.leave.merge red i, by show s'.leave.up.length < _; omega, hat4, ⟨_, HBL.out.merge i, HXL.out⟩, ⟨y2, hcur2⟩, ?_⟩
      rw [fin_merge, ← HFin.out, e1]
      unfold fin
      rw [← HMM.out.1]
      obtain ⟨m2, rfl⟩ : ∃ m2, m = m2 + 1 := ⟨m - 1, by omega⟩
      rfl)
     clear hat4 HL HBL HB3 HCur HU HFin
     go_wp2
     go_roundg m
     case measure => have := HMM.out; omega
     case rel => exact HE
end Go.Proofs.YtamfkglnejhjdaaDoor.PlayState
