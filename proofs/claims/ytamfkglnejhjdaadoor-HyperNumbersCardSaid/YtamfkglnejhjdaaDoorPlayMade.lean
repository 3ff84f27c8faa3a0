/- A view more: hyper.play[int64]. -/
import Derived.Test.YtamfkglnejhjdaaDoorPlayOps
namespace Go.Proofs.YtamfkglnejhjdaaDoor.PInfo
theorem infoI64 : (Tryd.prog.info? 2).map (fun i => (i.zero, i.size, i.bytes)) = some (some (.int .i64 0), 1, 8) := by kernel_rfl
theorem infoInt : (Tryd.prog.info? 3).map (fun i => (i.zero, i.size, i.bytes)) = some (some (.int .i64 0), 1, 8) := by kernel_rfl
end Go.Proofs.YtamfkglnejhjdaaDoor.PInfo
namespace Go.Proofs.YtamfkglnejhjdaaDoor.PlayState
open Go.RowKit Go.Proofs.YtamfkglnejhjdaaDoorW.PrintWords Go.Proofs.YtamfkglnejhjdaaDoorW.PrintLast Go.Proofs.YtamfkglnejhjdaaDoorW.PrintMore Go.Proofs.YtamfkglnejhjdaaDoor.Fam
set_option linter.unusedVariables false
theorem goesC_ {P : Program} {ops : Array Oper} {Q : Exit → Act → World → Prop} {oi : Oper} {N : Option Tmp} {a : Act} {w : World} {K : Act → World → Prop} {f : FuncId} {fn : Func} {x : Operand} {ars : Array Operand} {ts : Array TypeId} {caps : Array Value} (hf : P.funcs[f]? = some fn) (hname : (fn.name == "runtime.NumGoroutine") = false) (hb : fn.body.isSome = true) (args : Array Value)
    (hw : Region.wanted oi (yielded ops a.tmps) = true) (hN : oi.dst = N) (hop : oi.op = .call { callee := .value x, args := ars, argTypes := ts }) (hx : a.eval x = .func (.func f) #[] caps) (hargs : ars.map a.eval ++ caps = args)
    (h : Calls P f args w fun e w' => ∃ v, e = .returned v ∧ K (a.put N v) w') : if Region.wanted oi (yielded ops a.tmps) = true then Oper.wp P oi a w K Q else K (a.put N undef) w := by
  refine call_ f args hw hN ?_ h
  have he := enters_ hf hname hb args w
  subst hargs
  unfold execOp
  simp [hop, resolve, Deferred.ofValue, invoke, hx, he]
section
variable {w0 w w1 : World} {gp : Nat} {f : List Value} {g : Gh}
theorem PS.outer_at (h : PS w0 w gp f g) (hoh : g.oh = g.rs.map (·.1)) {rs : List Hd} {c : Hd} (hr : g.rs = rs ++ [c]) {gr n cr : Nat} (hro : g.ro = (some ⟨gr, 0, none⟩, n, cr)) :
    w.cell? ⟨gr, rs.length, none⟩ = some (slv c.1) ∧ w.frozen? ⟨gr, rs.length, none⟩ = false ∧ ∃ cells, w.heap[gr]? = some (.cells cells 24 (0, 0)) := by
  obtain ⟨g2, c2, e1, hx, hf⟩ := fam_at (h1 := slv_one) h.f24 0 rfl (none, 0, 0) rs.length (by rw [hoh, hr]; simp)
  have e2 := slv_form e1
  rw [hro] at e2
  obtain rfl : gr = g2 := by injection e2 with e2; injection e2 with e2; injection e2
  have hv : g.oh.getD rs.length (none, 0, 0) = c.1 := by rw [hoh, hr]; simp
  rw [hv] at hx
  refine ⟨hx, hf, ?_⟩
  exact own_typed (h.f24.own _ (List.mem_singleton.2 rfl)) gr (by show (slv g.ro).ownBlock = _; rw [hro]; rfl)
/-- Blocks of other types stand as they stood when a row of numbers grows. -/
theorem PS.stays3 (h : PS w0 w gp f g) {v : Value} {xs : List Int} (hm : (v, xs) ∈ g.rs.map hv ++ [hv g.sp]) (hg : w.grownBy w1 v.ownBlock) {b t : Nat} {cs : Array Value} (h1 : w.heap[b]? = some (.cells cs t (0, 0))) (ht : t ≠ 3) : w1.heap[b]? = w.heap[b]? := by
  refine hg.block b (blk_lt h1) (fun e => ?_)
  obtain ⟨cells, t', h2, rfl⟩ := h.typed3 hm b e.symm
  rw [h1] at h2
  injection h2 with h2
  injection h2 with _ h2
  exact ht h2
end
end Go.Proofs.YtamfkglnejhjdaaDoor.PlayState
namespace Go.Proofs.YtamfkglnejhjdaaDoor.PlayState
open Go.Proofs.YtamfkglnejhjdaaDoor.PInfo (infoI64 infoInt)
open Go.RowKit Go.Proofs.YtamfkglnejhjdaaDoorW.PrintWords Go.Proofs.YtamfkglnejhjdaaDoorW.PrintLast Go.Proofs.YtamfkglnejhjdaaDoorW.PrintMore Go.Proofs.YtamfkglnejhjdaaDoor.Fam
set_option linter.unusedSimpArgs false
set_option linter.unusedVariables false

def M41a : Bool × List (List Nat × List Nat) := (true, [([], []), ([0], [0]), ([1], [1]), ([2], [2]), ([], []), ([], []), ([5], [5]), ([6], [6]), ([7], [7]), ([], []), ([8, 9], [8, 9]), ([10], [10]), ([], []), ([12], [12]), ([13], [13]), ([14], [14]), ([15], [15]), ([16], [16]), ([11, 17], [11, 17]), ([3, 4, 0, 1, 2, 3, 4, 5, 6, 7, 8, 9, 10, 11, 12, 13, 14, 15, 16, 17, 18], [3, 4]), ([19, 18, 18, 0, 1, 2, 3, 4, 5, 6, 7, 8, 9, 10, 11, 12, 13, 14, 15, 16, 17, 18], [18, 19])])
def M41aB : List Nat := [0, 1, 3, 7, 0, 0, 32, 96, 224, 0, 992, 2016, 0, 4096, 12288, 28672, 61440, 126976, 262112, 524287, 1048575]
theorem M41a_tab : rtab .any (opsOf Tryd.f41 1) = M41a := by kernel_rfl
theorem M41a_bits : waitsOk M41a.2 M41aB = true := by kernel_rfl
def M41b : Bool × List (List Nat × List Nat) := (true, [([], []), ([], []), ([1], [1]), ([2], [2]), ([3], [3]), ([], []), ([5], [5]), ([6], [6]), ([7], [7]), ([8], [8]), ([9], [9]), ([10], [10]), ([4, 11, 10], [4, 11]), ([0, 0, 1, 2, 3, 4, 5, 6, 7, 8, 9, 10, 11, 12], [0]), ([13, 0, 1, 2, 3, 4, 5, 6, 7, 8, 9, 10, 11, 12], [13]), ([14, 12, 12, 0, 1, 2, 3, 4, 5, 6, 7, 8, 9, 10, 11, 12], [12, 14])])
def M41bB : List Nat := [0, 0, 2, 6, 14, 0, 32, 96, 224, 480, 992, 2016, 4094, 8191, 16383, 32767]
theorem M41b_tab : rtab .any (opsOf Tryd.f41 2) = M41b := by kernel_rfl
theorem M41b_bits : waitsOk M41b.2 M41bB = true := by kernel_rfl

set_option maxHeartbeats 8000000 in
set_option maxRecDepth 100000 in
theorem made_calls {w0 w : World} {gp : Nat} {f : List Value} {g : Gh} (h : PS w0 w gp f g) {gU : Nat} {un : Int} (hgU : gU < w0.heap.size ∧ w0.cell? ⟨gU, 0, none⟩ = some (.int .i64 un)) {f1 f2 f3 : Value} (hf : f = [.func (.func 22) #[] #[.pointer (some ⟨gU, 0, none⟩)], f1, f2, f3]) (hoh : g.oh = g.rs.map (·.1)) {rs : List Hd} {c : Hd} (hr : g.rs = rs ++ [c])
    (hk : rs.length ≤ 4194304) (hvb : g.vs.length ≤ 4194304) (hx : c.2.length ≤ 4194304) :
    Calls Tryd.prog 41 #[.pointer (some ⟨gp, 0, none⟩)] w fun e w' => e = .returned (.tuple #[]) ∧ ∃ t1 vo, PS w0 w' gp f { g with rs := rs ++ [(t1, c.2 ++ [(g.vs.length : Int)])], vs := g.vs ++ [un], vo := vo, oh := rs.map (·.1) ++ [t1] } := by
  have hf4 : f.length = 4 := by rw [hf]; rfl
  have hlen : g.rs.length = rs.length + 1 := by rw [hr]; simp
  obtain ⟨gr, cr, hro⟩ : ∃ gr cr, g.ro = (some ⟨gr, 0, none⟩, g.rs.length, cr) := by
    obtain ⟨g2, c2, e1, _, _⟩ := fam_at (h1 := slv_one) h.f24 0 rfl (none, 0, 0) rs.length (by rw [hoh, hr]; simp)
    have e2 := slv_form e1
    rw [hoh, List.length_map] at e2
    exact ⟨g2, c2, e2⟩
  obtain ⟨vA, vc, hvo⟩ : ∃ vA vc, g.vo = (vA, g.vs.length, vc) := by
    obtain ⟨A, c2, e1, _, _⟩ := Kd.R_reads (Fam.R (h1 := fun _ => rfl) h.f2 (List.mem_cons_self ..))
    obtain ⟨⟨a, b, d⟩, hh⟩ : ∃ t : Sl, g.vo = t := ⟨_, rfl⟩
    replace e1 : Value.slice a b d = .slice A g.vs.length c2 := by rw [← e1]; show _ = slv g.vo; rw [hh]; rfl
    injection e1 with e1 e3 e4
    exact ⟨A, c2, by rw [hh, e1, e3, e4]⟩
  have HUU := Aside0.mk hgU
  clear hgU
  obtain ⟨⟨cA, cn, cc⟩, xs⟩ := c
  obtain ⟨vn, hvn⟩ : ∃ vn, g.vs.length = vn := ⟨_, rfl⟩
  obtain ⟨k, hkk⟩ : ∃ k, rs.length = k := ⟨_, rfl⟩
  rw [hlen, hkk] at hro
  rw [hvn] at hvo hvb
  rw [hkk] at hk
  have hmem : (slv (cA, cn, cc), xs) ∈ g.rs.map hv ++ [hv g.sp] := by rw [hr]; simp [hv]
  have HS := Aside0.mk h
  have HCells : ∀ w', PS w0 w' gp f g → w'.cell? ⟨gp, 5, none⟩ = some (.slice (some ⟨gr, 0, none⟩) (k + 1) cr) ∧ w'.cell? ⟨gp, 4, none⟩ = some (.slice vA vn vc) ∧ w'.cell? ⟨gr, k, none⟩ = some (.slice cA cn cc) := fun w' h' => by
    have h1 := h'.cell hf4
    have h2 := (h'.outer_at hoh hr hro).1
    rw [hro, hvo] at h1
    rw [hkk] at h2
    exact ⟨h1.2.1, h1.1, h2⟩
  obtain ⟨Pst, hI, hE⟩ : ∃ Pst : World → Prop, (∀ t1 vo w', PS w0 w' gp f { g with rs := rs ++ [(t1, xs ++ [(g.vs.length : Int)])], vs := g.vs ++ [un], vo := vo, oh := rs.map (·.1) ++ [t1] } → Pst w') ∧ (∀ w', Pst w' → ∃ t1 vo, PS w0 w' gp f { g with rs := rs ++ [(t1, xs ++ [(g.vs.length : Int)])], vs := g.vs ++ [un], vo := vo, oh := rs.map (·.1) ++ [t1] }) :=
    ⟨fun w' => ∃ t1 vo, PS w0 w' gp f { g with rs := rs ++ [(t1, xs ++ [(g.vs.length : Int)])], vs := g.vs ++ [un], vo := vo, oh := rs.map (·.1) ++ [t1] }, fun t1 vo w' h => ⟨t1, vo, h⟩, fun w' h => h⟩
  have HI := Aside0.mk hI
  refine Calls.mono (?_ : Calls Tryd.prog 41 #[.pointer (some ⟨gp, 0, none⟩)] w fun e w' => e = .returned (.tuple #[]) ∧ Pst w') (fun e w' ⟨h1, h2⟩ => ⟨h1, hE w' h2⟩)
  clear hI hE
  have hHD := HCells
  have hGrown : ∀ w' w1, PS w0 w' gp f g → w'.grownBy w1 (Value.slice cA cn cc).ownBlock → (w1.cell? ⟨gp, 5, none⟩ = some (.slice (some ⟨gr, 0, none⟩) (k + 1) cr) ∧ w1.cell? ⟨gp, 4, none⟩ = some (.slice vA vn vc) ∧ w1.cell? ⟨gr, k, none⟩ = some (.slice cA cn cc)) ∧ w1.frozen? ⟨gr, k, none⟩ = false := fun w' w1 h' hg => by
    have h1 := HCells w' h'
    have e1 := h'.stays3 hmem hg h'.bp (by decide)
    obtain ⟨cells, h24⟩ := (h'.outer_at hoh hr hro).2.2
    have e2 := h'.stays3 hmem hg h24 (by decide)
    exact ⟨⟨(World.cell?_of_block e1).trans h1.1, (World.cell?_of_block e1).trans h1.2.1, (World.cell?_of_block e2).trans h1.2.2⟩, (World.frozen?_of_block e2).trans (by have := (h'.outer_at hoh hr hro).2.1; rw [hkk] at this; exact this)⟩
  have hHG : ∀ w' w1, PS w0 w' gp f g → w'.grownBy w1 (Value.slice cA cn cc).ownBlock → _ := fun w' w1 h' hg => (hGrown w' w1 h' hg).1
  have hFZ : ∀ w' w1, PS w0 w' gp f g → w'.grownBy w1 (Value.slice cA cn cc).ownBlock → w1.frozen? ⟨gr, k, none⟩ = false := fun w' w1 h' hg => (hGrown w' w1 h' hg).2
  have hRow : ∀ w', PS w0 w' gp f g → Kd.R (Kd.int .i64) 3 w' w0.heap.size (fun b => (Value.slice cA cn cc).ownBlock = some b ∨ w'.heap.size ≤ b) (.slice cA cn cc) xs := fun w' h' => Kd.R_mono (Fam.R (h1 := fun _ => rfl) h'.f3 hmem) (fun b hb => .inl hb)
  have hRG : ∀ w' w1 (t1 : Sl) (y : Int) (ok : Nat → Prop), PS w0 w' gp f g → Kd.R (Kd.int .i64) 3 w1 w0.heap.size ok (slv t1) (xs ++ [y]) → Below w0.heap.size w0 w1 → w'.grownBy w1 (Value.slice cA cn cc).ownBlock → ((slv t1).ownBlock = (Value.slice cA cn cc).ownBlock ∨ ∃ b, (slv t1).ownBlock = some b ∧ w'.heap.size ≤ b) →
      PS w0 (w1.setCell ⟨gr, k, none⟩ (slv t1)) gp f { g with rs := rs ++ [(t1, xs ++ [y])], oh := rs.map (·.1) ++ [t1] } := fun w' w1 t1 y ok h' ho hb hg hat => by
    have := h'.row_grew (os := rs.map (·.1)) (o := (cA, cn, cc)) (by rw [hoh, hr, List.map_append]; rfl) hr (by simp) (by rw [hro, hlen, hkk]) ho hb hg hat
    rw [hkk] at this
    exact this
  have hk2 : (k : Int) ≤ 4194304 := by omega
  have hw1 : wrap64 ((k : Int) + 1 - 1) = (k : Int) := by rw [BitMath.wrap_id (by unfold BitMath.In64; omega)]; omega
  have hw3 : wrap64 (k : Int) = (k : Int) := BitMath.wrap_id (by unfold BitMath.In64; omega)
  have l1 : ((k : Int) < (k : Int) + 1) = True := eq_true (by omega)
  have HW := Aside0.mk (And.intro h trivial)
  have hx5 := (hHD w h).1
  have HH1 := Aside0.mk hHD
  have HH2 := Aside0.mk hHG
  have HH3 := Aside0.mk hFZ
  have HH4 := Aside0.mk hRow
  have HH5 := Aside0.mk hRG
  have HX := Aside0.mk hx
  clear h HCells hGrown hHD hHG hFZ hRow hRG hx hlen hmem HS
  go_enter Tryd.func41, Tryd.ntmps41
  go_upto_region 1 with fail
  clear hx5
  refine start_ (n := 21) (S := (fun w' => w'.cell? ⟨gp, 5, none⟩ = some (.slice (some ⟨gr, 0, none⟩) (k + 1) cr) ∧ w'.cell? ⟨gp, 4, none⟩ = some (.slice vA vn vc) ∧ w'.cell? ⟨gr, k, none⟩ = some (.slice cA cn cc))) (ds := [20]) #[false, false, false, false, false, false, false, false, false, false, false, false, false, false, false, false, false, false, false, false, false] (by kernel_rfl) rfl rfl (HH1.out w HW.out.1) (fun hHeld => ?_); refine with_tabW M41a_tab M41a_bits (fun HT_ HW_ => ?_)
  have HW2 := Aside0.mk (show PS w0 w.drew gp f g from HW.out.1.below (Drawn0.below ⟨⟨1, rfl⟩⟩))
  generalize w.drew = w2 at HW2 hHeld ⊢
  refine pure_ (i := 0) (N := some 9) (v := ?_) (a' := ?_) #[true, false, false, false, false, false, false, false, false, false, false, false, false, false, false, false, false, false, false, false, false] rfl rfl (any_of HT_.out (by kernel_rfl)) (fun _ _ _ h => h) (Or.inl ⟨by rfl, ?_⟩) ?_ ?_
  rotate_left
  · intro w'
    go_simp
    with_reducible rfl
  rotate_left
  · simp only [Act.put, List.setIfInBounds_toArray, List.set_cons_zero, List.set_cons_succ, i64_w, i32_w]
    rfl
  refine pure_ (i := 1) (N := some 10) (v := ?_) (a' := ?_) #[true, true, false, false, false, false, false, false, false, false, false, false, false, false, false, false, false, false, false, false, false] rfl rfl (any_of HT_.out (by kernel_rfl)) (fun _ _ _ h => h) (Or.inl ⟨by rfl, ?_⟩) ?_ ?_
  rotate_left
  · intro w'
    go_simp
    with_reducible rfl
  rotate_left
  · simp only [Act.put, List.setIfInBounds_toArray, List.set_cons_zero, List.set_cons_succ, i64_w, i32_w]
    rfl
  refine pure_ (i := 2) (N := some 11) (v := ?_) (a' := ?_) #[true, true, true, false, false, false, false, false, false, false, false, false, false, false, false, false, false, false, false, false, false] rfl rfl (any_of HT_.out (by kernel_rfl)) (fun _ _ _ h => h) (Or.inl ⟨by rfl, ?_⟩) ?_ ?_
  rotate_left
  · intro w'
    go_simp
    with_reducible rfl
  rotate_left
  · simp only [Act.put, List.setIfInBounds_toArray, List.set_cons_zero, List.set_cons_succ, i64_w, i32_w]
    rfl
  refine take_ (i := 3) (N := some 12) (v := ?_) (a' := ?_) #[true, true, true, true, false, false, false, false, false, false, false, false, false, false, false, false, false, false, false, false, false] rfl rfl (take_ofW HT_.out HW_.out (by kernel_rfl)) (fun _ _ _ h => h) (Or.inl ⟨by rfl, ?_⟩) hHeld ?_ ?_
  rotate_left
  · rintro w' ⟨s0, s1, s2⟩
    go_simp
    with_reducible rfl
  rotate_left
  · simp only [Act.put, List.setIfInBounds_toArray, List.set_cons_zero, List.set_cons_succ, i64_w, i32_w]
    rfl
  refine pure_ (i := 4) (N := some 13) (v := ?_) (a' := ?_) #[true, true, true, true, true, false, false, false, false, false, false, false, false, false, false, false, false, false, false, false, false] rfl rfl (any_of HT_.out (by kernel_rfl)) (fun _ _ _ h => h) (Or.inl ⟨by rfl, ?_⟩) ?_ ?_
  rotate_left
  · intro w'
    go_simp
    with_reducible rfl
  rotate_left
  · simp only [Act.put, List.setIfInBounds_toArray, List.set_cons_zero, List.set_cons_succ, i64_w, i32_w]
    rfl
  refine pure_ (i := 5) (N := some 14) (v := ?_) (a' := ?_) #[true, true, true, true, true, true, false, false, false, false, false, false, false, false, false, false, false, false, false, false, false] rfl rfl (any_of HT_.out (by kernel_rfl)) (fun _ _ _ h => h) (Or.inl ⟨by rfl, ?_⟩) ?_ ?_
  rotate_left
  · intro w'
    go_simp
    with_reducible rfl
  rotate_left
  · simp only [Act.put, List.setIfInBounds_toArray, List.set_cons_zero, List.set_cons_succ, i64_w, i32_w]
    rfl
  refine pure_ (i := 6) (N := some 15) (v := ?_) (a' := ?_) #[true, true, true, true, true, true, true, false, false, false, false, false, false, false, false, false, false, false, false, false, false] rfl rfl (any_of HT_.out (by kernel_rfl)) (fun _ _ _ h => h) (Or.inl ⟨by rfl, ?_⟩) ?_ ?_
  rotate_left
  · intro w'
    go_simp
    with_reducible rfl
  rotate_left
  · simp only [Act.put, List.setIfInBounds_toArray, List.set_cons_zero, List.set_cons_succ, i64_w, i32_w]
    rfl
  refine pure_ (i := 7) (N := some 16) (v := ?_) (a' := ?_) #[true, true, true, true, true, true, true, true, false, false, false, false, false, false, false, false, false, false, false, false, false] rfl rfl (any_of HT_.out (by kernel_rfl)) (fun _ _ _ h => h) (Or.inl ⟨by rfl, ?_⟩) ?_ ?_
  rotate_left
  · intro w'
    go_simp
    with_reducible rfl
  rotate_left
  · simp only [Act.put, List.setIfInBounds_toArray, List.set_cons_zero, List.set_cons_succ, i64_w, i32_w]
    rfl
  refine take_ (i := 8) (N := some 17) (v := ?_) (a' := ?_) #[true, true, true, true, true, true, true, true, true, false, false, false, false, false, false, false, false, false, false, false, false] rfl rfl (take_ofW HT_.out HW_.out (by kernel_rfl)) (fun _ _ _ h => h) (Or.inl ⟨by rfl, ?_⟩) hHeld ?_ ?_
  rotate_left
  · rintro w' ⟨s0, s1, s2⟩
    go_simp
    with_reducible rfl
  rotate_left
  · simp only [Act.put, List.setIfInBounds_toArray, List.set_cons_zero, List.set_cons_succ, i64_w, i32_w]
    rfl
  refine pure_ (i := 9) (N := some 18) (v := ?_) (a' := ?_) #[true, true, true, true, true, true, true, true, true, true, false, false, false, false, false, false, false, false, false, false, false] rfl rfl (any_of HT_.out (by kernel_rfl)) (fun _ _ _ h => h) (Or.inl ⟨by rfl, ?_⟩) ?_ ?_
  rotate_left
  · intro w'
    go_simp
    with_reducible rfl
  rotate_left
  · simp only [Act.put, List.setIfInBounds_toArray, List.set_cons_zero, List.set_cons_succ, i64_w, i32_w]
    rfl
  refine pure_ (i := 10) (N := some 19) (v := ?_) (a' := ?_) #[true, true, true, true, true, true, true, true, true, true, true, false, false, false, false, false, false, false, false, false, false] rfl rfl (any_of HT_.out (by kernel_rfl)) (fun _ _ _ h => h) (Or.inl ⟨by rfl, ?_⟩) ?_ ?_
  rotate_left
  · intro w'
    go_simp
    with_reducible rfl
  rotate_left
  · simp only [Act.put, List.setIfInBounds_toArray, List.set_cons_zero, List.set_cons_succ, i64_w, i32_w]
    rfl
  refine take_ (i := 11) (N := some 20) (v := ?_) (a' := ?_) #[true, true, true, true, true, true, true, true, true, true, true, true, false, false, false, false, false, false, false, false, false] rfl rfl (take_ofW HT_.out HW_.out (by kernel_rfl)) (fun _ _ _ h => h) (Or.inl ⟨by rfl, ?_⟩) hHeld ?_ ?_
  rotate_left
  · rintro w' ⟨s0, s1, s2⟩
    go_simp
    with_reducible rfl
  rotate_left
  · simp only [Act.put, List.setIfInBounds_toArray, List.set_cons_zero, List.set_cons_succ, i64_w, i32_w]
    rfl
  refine pure_ (i := 12) (N := some 21) (v := ?_) (a' := ?_) #[true, true, true, true, true, true, true, true, true, true, true, true, true, false, false, false, false, false, false, false, false] rfl rfl (any_of HT_.out (by kernel_rfl)) (fun _ _ _ h => h) (Or.inl ⟨by rfl, ?_⟩) ?_ ?_
  rotate_left
  · intro w'
    go_simp
    with_reducible rfl
  rotate_left
  · simp only [Act.put, List.setIfInBounds_toArray, List.set_cons_zero, List.set_cons_succ, i64_w, i32_w]
    rfl
  refine pure_ (i := 13) (N := some 22) (v := ?_) (a' := ?_) #[true, true, true, true, true, true, true, true, true, true, true, true, true, true, false, false, false, false, false, false, false] rfl rfl (any_of HT_.out (by kernel_rfl)) (fun _ _ _ h => h) (Or.inl ⟨by rfl, ?_⟩) ?_ ?_
  rotate_left
  · intro w'
    go_simp
    with_reducible rfl
  rotate_left
  · simp only [Act.put, List.setIfInBounds_toArray, List.set_cons_zero, List.set_cons_succ, i64_w, i32_w]
    rfl
  refine pure_ (i := 14) (N := some 23) (v := ?_) (a' := ?_) #[true, true, true, true, true, true, true, true, true, true, true, true, true, true, true, false, false, false, false, false, false] rfl rfl (any_of HT_.out (by kernel_rfl)) (fun _ _ _ h => h) (Or.inl ⟨by rfl, ?_⟩) ?_ ?_
  rotate_left
  · intro w'
    go_simp
    with_reducible rfl
  rotate_left
  · simp only [Act.put, List.setIfInBounds_toArray, List.set_cons_zero, List.set_cons_succ, i64_w, i32_w]
    rfl
  refine take_ (i := 15) (N := some 24) (v := ?_) (a' := ?_) #[true, true, true, true, true, true, true, true, true, true, true, true, true, true, true, true, false, false, false, false, false] rfl rfl (take_ofW HT_.out HW_.out (by kernel_rfl)) (fun _ _ _ h => h) (Or.inl ⟨by rfl, ?_⟩) hHeld ?_ ?_
  rotate_left
  · rintro w' ⟨s0, s1, s2⟩
    go_simp
    with_reducible rfl
  rotate_left
  · simp only [Act.put, List.setIfInBounds_toArray, List.set_cons_zero, List.set_cons_succ, i64_w, i32_w]
    rfl
  refine pure_ (i := 16) (N := some 25) (v := ?_) (a' := ?_) #[true, true, true, true, true, true, true, true, true, true, true, true, true, true, true, true, true, false, false, false, false] rfl rfl (any_of HT_.out (by kernel_rfl)) (fun _ _ _ h => h) (Or.inl ⟨by rfl, ?_⟩) ?_ ?_
  rotate_left
  · intro w'
    go_simp
    with_reducible rfl
  rotate_left
  · simp only [Act.put, List.setIfInBounds_toArray, List.set_cons_zero, List.set_cons_succ, i64_w, i32_w]
    rfl
  refine one_ (i := 17) (N := some 26) #[true, true, true, true, true, true, true, true, true, true, true, true, true, true, true, true, true, true, false, false, false] rfl rfl (one_of HT_.out (by kernel_rfl)) (by decide) (fun K hK => ?_)
  refine value_ (w1 := ?_) (v := ?_) (by rfl) rfl ?_ ?_
  rotate_left 2
  · go_simp
    constructor
    · rfl
    · rfl
  refine hK.out _ _ (HH1.out _ (HW2.out.below (below_alloc (Below.refl _ _) _))) (fun hHeld => ?_)
  clear hK K
  refine norm_ (a' := ?_) ?_ ?_
  rotate_left
  · show Act.put _ (some 26) _ = _
    simp only [Act.put, List.setIfInBounds_toArray, List.set_cons_zero, List.set_cons_succ, i64_w, i32_w]
    rfl
  refine one_ (i := 18) (N := some 27) #[true, true, true, true, true, true, true, true, true, true, true, true, true, true, true, true, true, true, true, false, false] rfl rfl (one_of HT_.out (by kernel_rfl)) (by decide) (fun K hK => ?_)
  refine Kd.R_append_step (Kd.int .i64) (w0 := w0) w0.heap.size (by rfl) (.tmp 20) (.tmp 26) 24 3 (.int .i64 0) 8 rfl Tryd.underlying24 infoInt rfl (by decide) (by omega) (.slice cA cn cc) xs (vn : Int) [.int .i64 (vn : Int)] (fun b => (Value.slice cA cn cc).ownBlock = some b ∨ w2.heap.size ≤ b) (fun _ => False) rfl rfl ?aP (fun _ hk => hk.elim) ?aF ?aO ?aB ?aS ?aL ?_
  (case aP => exact rfl)
  (case aB => exact HW2.out.hb)
  (case aF => exact (fun k_ hk => .inr hk))
  (case aO => exact HH4.out w2 HW2.out)
  (case aS => exact (below_size HW2.out.hb))
  (case aL => have := HX.out; simp only at this; omega)
  intro v1 w5 ho hb hg hat
  obtain ⟨A1, c1, rfl, _, _⟩ := Kd.R_reads ho
  have HG := Aside0.mk (And.intro ho (And.intro hb (And.intro hg hat)))
  clear ho hb hg hat
  refine hK.out _ _ (HH2.out w2 w5 HW2.out HG.out.2.2.1) (fun hHeld => ?_)
  clear hK K
  refine norm_ (a' := ?_) ?_ ?_
  rotate_left
  · show Act.put _ (some 27) _ = _
    simp only [Act.put, List.setIfInBounds_toArray, List.set_cons_zero, List.set_cons_succ, i64_w, i32_w]
    rfl
  refine pure_ (i := 19) (N := some 28) (v := ?_) (a' := ?_) #[true, true, true, true, true, true, true, true, true, true, true, true, true, true, true, true, true, true, true, true, false] rfl rfl (any_of HT_.out (by kernel_rfl)) (fun _ _ _ h => h) (Or.inl ⟨by rfl, ?_⟩) ?_ ?_
  rotate_left
  · intro w'
    go_simp
    with_reducible rfl
  rotate_left
  · simp only [Act.put, List.setIfInBounds_toArray, List.set_cons_zero, List.set_cons_succ, i64_w, i32_w]
    rfl
  have hfz := HH3.out w2 w5 HW2.out HG.out.2.2.1
  refine last_ (i := 20) (N := none) #[true, true, true, true, true, true, true, true, true, true, true, true, true, true, true, true, true, true, true, true, true] rfl rfl (one_of HT_.out (by kernel_rfl)) (by decide) (fun K hK => ?_)
  refine skip_ (w1 := ?_) (by rfl) rfl ?_ ?_
  rotate_left
  · go_simp
    rfl
  refine hK.out _ _ ?_
  clear hK K
  refine done_ (done_of HT_.out (by kernel_rfl)) ?_
  clear HT_ HW_ hHeld

  have hv6 := HH5.out w2 w5 (A1, (xs ++ [(vn : Int)]).length, c1) (vn : Int) _ HW2.out HG.out.1 HG.out.2.1 HG.out.2.2.1 HG.out.2.2.2
  rw [show (xs ++ [(vn : Int)]).length = xs.length + 1 from by simp] at hv6
  replace hv6 : PS w0 (w5.setCell ⟨gr, k, none⟩ (.slice A1 (xs.length + 1) c1)) gp f { g with rs := rs ++ [((A1, xs.length + 1, c1), xs ++ [(vn : Int)])], oh := rs.map (·.1) ++ [(A1, xs.length + 1, c1)] } := hv6
  obtain ⟨t1, ht1⟩ : ∃ t1 : Sl, t1 = (A1, xs.length + 1, c1) := ⟨_, rfl⟩
  rw [← ht1] at hv6
  obtain ⟨g1, hg1⟩ : ∃ g1 : Gh, g1 = { g with rs := rs ++ [(t1, xs ++ [(vn : Int)])], oh := rs.map (·.1) ++ [t1] } := ⟨_, rfl⟩
  rw [← hg1] at hv6
  have hvo1 : g1.vo = (vA, vn, vc) := by rw [hg1]; exact hvo
  have hvs1 : g1.vs = g.vs := by rw [hg1]
  have HV := Aside0.mk hv6
  have HL1 := Aside0.mk (show g1.vs.length ≤ 4194304 by rw [hvs1, hvn]; exact hvb)
  have hCell2 : ∀ w', PS w0 w' gp f g1 → w'.cell? ⟨gp, 4, none⟩ = some (.slice vA vn vc) ∧ w'.cell? ⟨gp, 0, none⟩ = some (.func (.func 22) #[] #[.pointer (some ⟨gU, 0, none⟩)]) := fun w' h' => by
    have h1 := (h'.cell hf4).1
    rw [hvo1] at h1
    exact ⟨h1, by subst hf; exact (blk_cell h'.bp 0).trans rfl⟩
  have hGrown2 : ∀ w' w1, PS w0 w' gp f g1 → w'.grownBy w1 (Value.slice vA vn vc).ownBlock → (w1.cell? ⟨gp, 4, none⟩ = some (.slice vA vn vc) ∧ w1.cell? ⟨gp, 0, none⟩ = some (.func (.func 22) #[] #[.pointer (some ⟨gU, 0, none⟩)])) ∧ w1.frozen? ⟨gp, 4, none⟩ = false := fun w' w1 h' hg => by
    have e1 := h'.stays2 (by rw [hvo1]; exact hg) h'.bp (by decide)
    have h1 := hCell2 w' h'
    exact ⟨⟨(World.cell?_of_block e1).trans h1.1, (World.cell?_of_block e1).trans h1.2⟩, (World.frozen?_of_block e1).trans (blk_frozen h'.bp 4)⟩
  have hOut : ∀ w', PS w0 w' gp f g1 → Kd.R (Kd.int .i64) 2 w' w0.heap.size (fun b => (Value.slice vA vn vc).ownBlock = some b ∨ w'.heap.size ≤ b) (.slice vA vn vc) (g1.vs) := fun w' h' => by
    have h2 := Fam.R (h1 := fun _ => rfl) h'.f2 (List.mem_cons_self ..)
    rw [hvo1] at h2
    exact Kd.R_mono h2 (fun b hb => .inl hb)
  have hView : ∀ w' w1 (t2 : Sl) (ok : Nat → Prop), PS w0 w' gp f g1 → Kd.R (Kd.int .i64) 2 w1 w0.heap.size ok (slv t2) (g1.vs ++ [un]) → Below w0.heap.size w0 w1 → w'.grownBy w1 (Value.slice vA vn vc).ownBlock → ((slv t2).ownBlock = (Value.slice vA vn vc).ownBlock ∨ ∃ b, (slv t2).ownBlock = some b ∧ w'.heap.size ≤ b) →
      PS w0 (w1.setCell ⟨gp, 4, none⟩ (slv t2)) gp f { g1 with vs := g1.vs ++ [un], vo := t2 } := fun w' w1 t2 ok h' ho hb hg hat => h'.view_made hf4 ho hb (by rw [hvo1]; exact hg) (by rw [hvo1]; exact hat)
  have HJ1 := Aside0.mk hCell2
  have HJ2 := Aside0.mk hGrown2
  have HJ3 := Aside0.mk hOut
  have HJ4 := Aside0.mk hView
  have HE1 := Aside0.mk hg1
  have HE2 := Aside0.mk hvn
  generalize w5.setCell ⟨gr, k, none⟩ (.slice A1 (xs.length + 1) c1) = w6 at HV ⊢
  clear hv6 hCell2 hGrown2 hOut hView hg1 hvo1 hvs1 HG HW2 hfz HH1 HH2 HH3 HH4 HH5 ht1
  go_upto_region 2 with fail
  refine start_ (n := 16) (S := (fun w' => w'.cell? ⟨gp, 4, none⟩ = some (.slice vA vn vc) ∧ w'.cell? ⟨gp, 0, none⟩ = some (.func (.func 22) #[] #[.pointer (some ⟨gU, 0, none⟩)]))) (ds := [15]) #[false, false, false, false, false, false, false, false, false, false, false, false, false, false, false, false] (by kernel_rfl) rfl rfl (HJ1.out w6 HV.out) (fun hHeld => ?_); refine with_tabW M41b_tab M41b_bits (fun HT_ HW_ => ?_)
  have HV2 := Aside0.mk (show PS w0 w6.drew gp f g1 from HV.out.below (Drawn0.below ⟨⟨1, rfl⟩⟩))
  clear HV
  generalize w6.drew = w7 at HV2 hHeld ⊢
  refine pure_ (i := 0) (N := some 29) (v := ?_) (a' := ?_) #[true, false, false, false, false, false, false, false, false, false, false, false, false, false, false, false] rfl rfl (any_of HT_.out (by kernel_rfl)) (fun _ _ _ h => h) (Or.inl ⟨by rfl, ?_⟩) ?_ ?_
  rotate_left
  · intro w'
    go_simp
    with_reducible rfl
  rotate_left
  · simp only [Act.put, List.setIfInBounds_toArray, List.set_cons_zero, List.set_cons_succ, i64_w, i32_w]
    rfl
  refine pure_ (i := 1) (N := some 30) (v := ?_) (a' := ?_) #[true, true, false, false, false, false, false, false, false, false, false, false, false, false, false, false] rfl rfl (any_of HT_.out (by kernel_rfl)) (fun _ _ _ h => h) (Or.inl ⟨by rfl, ?_⟩) ?_ ?_
  rotate_left
  · intro w'
    go_simp
    with_reducible rfl
  rotate_left
  · simp only [Act.put, List.setIfInBounds_toArray, List.set_cons_zero, List.set_cons_succ, i64_w, i32_w]
    rfl
  refine pure_ (i := 2) (N := some 31) (v := ?_) (a' := ?_) #[true, true, true, false, false, false, false, false, false, false, false, false, false, false, false, false] rfl rfl (any_of HT_.out (by kernel_rfl)) (fun _ _ _ h => h) (Or.inl ⟨by rfl, ?_⟩) ?_ ?_
  rotate_left
  · intro w'
    go_simp
    with_reducible rfl
  rotate_left
  · simp only [Act.put, List.setIfInBounds_toArray, List.set_cons_zero, List.set_cons_succ, i64_w, i32_w]
    rfl
  refine pure_ (i := 3) (N := some 32) (v := ?_) (a' := ?_) #[true, true, true, true, false, false, false, false, false, false, false, false, false, false, false, false] rfl rfl (any_of HT_.out (by kernel_rfl)) (fun _ _ _ h => h) (Or.inl ⟨by rfl, ?_⟩) ?_ ?_
  rotate_left
  · intro w'
    go_simp
    with_reducible rfl
  rotate_left
  · simp only [Act.put, List.setIfInBounds_toArray, List.set_cons_zero, List.set_cons_succ, i64_w, i32_w]
    rfl
  refine take_ (i := 4) (N := some 33) (v := ?_) (a' := ?_) #[true, true, true, true, true, false, false, false, false, false, false, false, false, false, false, false] rfl rfl (take_ofW HT_.out HW_.out (by kernel_rfl)) (fun _ _ _ h => h) (Or.inl ⟨by rfl, ?_⟩) hHeld ?_ ?_
  rotate_left
  · rintro w' ⟨s0, s1⟩
    go_simp
    with_reducible rfl
  rotate_left
  · simp only [Act.put, List.setIfInBounds_toArray, List.set_cons_zero, List.set_cons_succ, i64_w, i32_w]
    rfl
  refine pure_ (i := 5) (N := some 34) (v := ?_) (a' := ?_) #[true, true, true, true, true, true, false, false, false, false, false, false, false, false, false, false] rfl rfl (any_of HT_.out (by kernel_rfl)) (fun _ _ _ h => h) (Or.inl ⟨by rfl, ?_⟩) ?_ ?_
  rotate_left
  · intro w'
    go_simp
    with_reducible rfl
  rotate_left
  · simp only [Act.put, List.setIfInBounds_toArray, List.set_cons_zero, List.set_cons_succ, i64_w, i32_w]
    rfl
  refine pure_ (i := 6) (N := some 35) (v := ?_) (a' := ?_) #[true, true, true, true, true, true, true, false, false, false, false, false, false, false, false, false] rfl rfl (any_of HT_.out (by kernel_rfl)) (fun _ _ _ h => h) (Or.inl ⟨by rfl, ?_⟩) ?_ ?_
  rotate_left
  · intro w'
    go_simp
    with_reducible rfl
  rotate_left
  · simp only [Act.put, List.setIfInBounds_toArray, List.set_cons_zero, List.set_cons_succ, i64_w, i32_w]
    rfl
  refine pure_ (i := 7) (N := some 36) (v := ?_) (a' := ?_) #[true, true, true, true, true, true, true, true, false, false, false, false, false, false, false, false] rfl rfl (any_of HT_.out (by kernel_rfl)) (fun _ _ _ h => h) (Or.inl ⟨by rfl, ?_⟩) ?_ ?_
  rotate_left
  · intro w'
    go_simp
    with_reducible rfl
  rotate_left
  · simp only [Act.put, List.setIfInBounds_toArray, List.set_cons_zero, List.set_cons_succ, i64_w, i32_w]
    rfl
  refine pure_ (i := 8) (N := some 37) (v := ?_) (a' := ?_) #[true, true, true, true, true, true, true, true, true, false, false, false, false, false, false, false] rfl rfl (any_of HT_.out (by kernel_rfl)) (fun _ _ _ h => h) (Or.inl ⟨by rfl, ?_⟩) ?_ ?_
  rotate_left
  · intro w'
    go_simp
    with_reducible rfl
  rotate_left
  · simp only [Act.put, List.setIfInBounds_toArray, List.set_cons_zero, List.set_cons_succ, i64_w, i32_w]
    rfl
  refine take_ (i := 9) (N := some 38) (v := ?_) (a' := ?_) #[true, true, true, true, true, true, true, true, true, true, false, false, false, false, false, false] rfl rfl (take_ofW HT_.out HW_.out (by kernel_rfl)) (fun _ _ _ h => h) (Or.inl ⟨by rfl, ?_⟩) hHeld ?_ ?_
  rotate_left
  · rintro w' ⟨s0, s1⟩
    go_simp
    with_reducible rfl
  rotate_left
  · simp only [Act.put, List.setIfInBounds_toArray, List.set_cons_zero, List.set_cons_succ, i64_w, i32_w]
    rfl
  refine one_ (i := 10) (N := some 39) #[true, true, true, true, true, true, true, true, true, true, true, false, false, false, false, false] rfl rfl (one_of HT_.out (by kernel_rfl)) (by decide) (fun K hK => ?_)
  refine goesC_ Tryd.func22 (by kernel_rfl) rfl #[.pointer (some ⟨gU, 0, none⟩)] (by rfl) rfl rfl rfl (by (try simp only [List.map_toArray, List.map_cons, List.map_nil]); first | done | rfl) ?_
  with_reducible refine (fresh_calls gU un w7 ((HV2.out.hb.cell (p := ⟨gU, 0, none⟩) HUU.out.1).trans HUU.out.2)).mono ?_
  rintro e w8 ⟨rfl, hd⟩
  have HV3 := Aside0.mk (HV2.out.below hd)
  clear hd HV2
  refine ⟨_, rfl, ?_⟩
  refine hK.out _ _ (HJ1.out w8 HV3.out) (fun hHeld => ?_)
  clear hK K
  refine norm_ (a' := ?_) ?_ ?_
  rotate_left
  · show Act.put _ (some 39) _ = _
    simp only [Act.put, List.setIfInBounds_toArray, List.set_cons_zero, List.set_cons_succ, i64_w, i32_w]
    rfl
  refine one_ (i := 11) (N := some 40) #[true, true, true, true, true, true, true, true, true, true, true, true, false, false, false, false] rfl rfl (one_of HT_.out (by kernel_rfl)) (by decide) (fun K hK => ?_)
  refine value_ (w1 := ?_) (v := ?_) (by rfl) rfl ?_ ?_
  rotate_left 2
  · go_simp
    constructor
    · rfl
    · rfl
  refine hK.out _ _ (HJ1.out _ (HV3.out.below (below_alloc (Below.refl _ _) _))) (fun hHeld => ?_)
  clear hK K
  refine norm_ (a' := ?_) ?_ ?_
  rotate_left
  · show Act.put _ (some 40) _ = _
    simp only [Act.put, List.setIfInBounds_toArray, List.set_cons_zero, List.set_cons_succ, i64_w, i32_w]
    rfl
  refine one_ (i := 12) (N := some 41) #[true, true, true, true, true, true, true, true, true, true, true, true, true, false, false, false] rfl rfl (one_of HT_.out (by kernel_rfl)) (by decide) (fun K hK => ?_)
  refine Kd.R_append_step (Kd.int .i64) (w0 := w0) w0.heap.size (by rfl) (.tmp 33) (.tmp 40) 36 2 (.int .i64 0) 8 rfl Tryd.underlying36 infoI64 rfl (by decide) (by omega) (.slice vA vn vc) (g1.vs) un [.int .i64 un] (fun b => (Value.slice vA vn vc).ownBlock = some b ∨ w8.heap.size ≤ b) (fun _ => False) rfl rfl ?aP (fun _ hk => hk.elim) ?aF ?aO ?aB ?aS ?aL ?_
  (case aP => exact rfl)
  (case aB => exact HV3.out.hb)
  (case aF => exact (fun k_ hk => .inr hk))
  (case aO => exact HJ3.out w8 HV3.out)
  (case aS => exact (below_size HV3.out.hb))
  (case aL => have := HL1.out; omega)
  intro v2 w9 ho hb hg hat
  obtain ⟨A2, c2, rfl, _, _⟩ := Kd.R_reads ho
  have HG2 := Aside0.mk (And.intro ho (And.intro hb (And.intro hg hat)))
  clear ho hb hg hat
  refine hK.out _ _ ((HJ2.out w8 w9 HV3.out HG2.out.2.2.1).1) (fun hHeld => ?_)
  clear hK K
  refine norm_ (a' := ?_) ?_ ?_
  rotate_left
  · show Act.put _ (some 41) _ = _
    simp only [Act.put, List.setIfInBounds_toArray, List.set_cons_zero, List.set_cons_succ, i64_w, i32_w]
    rfl
  refine pure_ (i := 13) (N := some 42) (v := ?_) (a' := ?_) #[true, true, true, true, true, true, true, true, true, true, true, true, true, true, false, false] rfl rfl (any_of HT_.out (by kernel_rfl)) (fun _ _ _ h => h) (Or.inl ⟨by rfl, ?_⟩) ?_ ?_
  rotate_left
  · intro w'
    go_simp
    with_reducible rfl
  rotate_left
  · simp only [Act.put, List.setIfInBounds_toArray, List.set_cons_zero, List.set_cons_succ, i64_w, i32_w]
    rfl
  refine pure_ (i := 14) (N := some 43) (v := ?_) (a' := ?_) #[true, true, true, true, true, true, true, true, true, true, true, true, true, true, true, false] rfl rfl (any_of HT_.out (by kernel_rfl)) (fun _ _ _ h => h) (Or.inl ⟨by rfl, ?_⟩) ?_ ?_
  rotate_left
  · intro w'
    go_simp
    with_reducible rfl
  rotate_left
  · simp only [Act.put, List.setIfInBounds_toArray, List.set_cons_zero, List.set_cons_succ, i64_w, i32_w]
    rfl
  have hfz := (HJ2.out w8 w9 HV3.out HG2.out.2.2.1).2
  refine last_ (i := 15) (N := none) #[true, true, true, true, true, true, true, true, true, true, true, true, true, true, true, true] rfl rfl (one_of HT_.out (by kernel_rfl)) (by decide) (fun K hK => ?_)
  refine skip_ (w1 := ?_) (by rfl) rfl ?_ ?_
  rotate_left
  · go_simp
    rfl
  refine hK.out _ _ ?_
  clear hK K
  refine done_ (done_of HT_.out (by kernel_rfl)) ?_
  clear HT_ HW_ hHeld

  have F := HJ4.out w8 w9 (A2, (g1.vs ++ [un]).length, c2) _ HV3.out HG2.out.1 HG2.out.2.1 HG2.out.2.2.1 HG2.out.2.2.2
  have hl : (g1.vs ++ [un]).length = g1.vs.length + 1 := by simp
  rw [hl] at F
  have HFin := Aside0.mk F
  clear F hl
  go_wp2
  go_end0
  refine ⟨rfl, HI.out t1 (A2, g1.vs.length + 1, c2) _ ?_⟩
  have F := HFin.out
  have e1 := HE1.out
  have e2 := HE2.out
  clear HFin HI HE1 HE2 HJ1 HJ2 HJ3 HJ4 HG2 HV3 HUU
  subst e1 e2
  exact F
end Go.Proofs.YtamfkglnejhjdaaDoor.PlayState
