/- The play's puts, joins, looks, and its merge. -/
import Derived.Test.YtamfkglnejhjdaaPlayA
import Derived.Test.YtamfkglnejhjdaaPlayPure
namespace Go.Proofs.Ytamfkglnejhjdaa.PlayState
open Go.RowKit Go.Proofs.YtamfkglnejhjdaaW.PrintWords Go.Proofs.YtamfkglnejhjdaaW.PrintLast Go.Proofs.YtamfkglnejhjdaaW.PrintMore Go.Proofs.Ytamfkglnejhjdaa.Fam
set_option linter.unusedSimpArgs false
set_option linter.unusedVariables false
theorem info2 : (Try.prog.info? 2).map (fun i => (i.zero, i.size, i.bytes)) = some (some (.int .i64 0), 1, 8) := by kernel_rfl
/-- What an append leaves. -/
def Grew (w0 w w1 : World) (v v1 : Value) (xs1 : List Int) : Prop :=
  Kd.R (Kd.int .i64) 2 w1 w0.heap.size (fun _ => True) v1 xs1 ∧ Below w0.heap.size w0 w1 ∧ w.grownBy w1 v.ownBlock ∧ (v1.ownBlock = v.ownBlock ∨ ∃ b, v1.ownBlock = some b ∧ w.heap.size ≤ b)
set_option maxHeartbeats 2000000 in
set_option maxRecDepth 100000 in
theorem put_calls {w0 w : World} (v : Value) (xs : List Int) (x : Int) (ho : Kd.R (Kd.int .i64) 2 w w0.heap.size (fun _ => True) v xs) (hb : Below w0.heap.size w0 w) (hl : xs.length ≤ 4194304) :
    Calls Try.prog 27 #[v, .int .i64 x] w fun e w' => ∃ v1, e = .returned v1 ∧ Grew w0 w w' v v1 (xs ++ [x]) := by
  obtain ⟨A, c, rfl, _, _⟩ := Kd.R_reads ho
  have HR := Aside0.mk ho
  have HB := Aside0.mk hb
  clear ho hb
  go_enter Try.func27, Try.ntmps27
  go_wp2_with (first | ((with_reducible refine gate_builtin (b := .append) (xs := #[.tmp 5, .tmp 7]) rfl ?_); at_builtin; refine Kd.R_append (Kd.int .i64) (w0 := w0) w0.heap.size rfl (.tmp 5) (.tmp 7) 28 2 (.int .i64 0) 8 rfl Try.underlying28 info2 rfl (by decide) (by omega) (.slice A xs.length c) xs x [.int .i64 x] (fun _ => True) (fun _ => False) rfl rfl ?aP (fun _ hk => hk.elim) ?aF ?aO ?aB ?aS ?aL ?_; (case aP => exact rfl); (case aB => exact HB.out); (case aF => exact (fun _ _ => trivial)); (case aO => exact HR.out); (case aS => exact (below_size HB.out)); (case aL => omega); intro v103 w9 ho hb hg hat; have HG := Aside0.mk (show Grew w0 w w9 (.slice A xs.length c) v103 (xs ++ [x]) from ⟨ho, hb, hg, hat⟩); clear ho hb hg hat))
  go_ret
  exact ⟨_, rfl, HG.out⟩
set_option maxHeartbeats 2000000 in
set_option maxRecDepth 100000 in
theorem join_calls {w0 w : World} (v : Value) (xs ys : List Int) (A : Option Addr) (c : Nat) (ho : Kd.R (Kd.int .i64) 2 w w0.heap.size (fun _ => True) v xs) (hy : Kd.C (Kd.int .i64) w A ys.length ys) (hb : Below w0.heap.size w0 w) (hl : xs.length ≤ 4194304) (hl2 : ys.length ≤ 4194304) :
    Calls Try.prog 28 #[v, .slice A ys.length c] w fun e w' => ∃ v1, e = .returned v1 ∧ Grew w0 w w' v v1 (xs ++ ys) := by
  obtain ⟨A1, c1, rfl, _, _⟩ := Kd.R_reads ho
  have HR := Aside0.mk ho
  have HB := Aside0.mk hb
  have HY := Aside0.mk hy
  clear ho hb hy
  go_enter Try.func28, Try.ntmps28
  go_wp2_with (first | ((with_reducible refine gate_builtin (b := .append) (xs := #[.tmp 5, .tmp 6]) rfl ?_); at_builtin; refine Kd.R_append_row (Value.int .i64) 0 (h1 := fun _ => rfl) (w0 := w0) w0.heap.size rfl (.tmp 5) (.tmp 6) 28 2 (.int .i64 0) 8 rfl Try.underlying28 info2 rfl (by decide) (.slice A1 xs.length c1) xs ys A ys.length c (fun _ => True) rfl rfl (fun _ _ => trivial) ?aO ?aR ?aB ?aS ?aL ?_; (case aO => exact HR.out); (case aR => exact HY.out); (case aB => exact HB.out); (case aS => exact below_size HB.out); (case aL => omega); intro v103 w9 ho hb hg hat; have HG := Aside0.mk (show Grew w0 w w9 (.slice A1 xs.length c1) v103 (xs ++ ys) from ⟨ho, hb, hg, hat⟩); clear ho hb hg hat))
  go_ret
  exact ⟨_, rfl, HG.out⟩
end Go.Proofs.Ytamfkglnejhjdaa.PlayState

namespace Go.Proofs.Ytamfkglnejhjdaa.PlayState
open Go.RowKit Go.Proofs.YtamfkglnejhjdaaW.PrintWords Go.Proofs.Ytamfkglnejhjdaa.Fam
set_option linter.unusedVariables false
section
variable {w0 w w1 : World} {gp gt : Nat} {f t0 : List Value} {g : Gh}
theorem PS.typed2 (h : PS w0 w gp gt f t0 g) {v : Value} {xs : List Int} (hm : (v, xs) ∈ g.vs.map hv ++ g.ks.map hv) : ∀ b, v.ownBlock = some b → ∃ cells t, w.heap[b]? = some (.cells cells t (0, 0)) ∧ 2 = t := fun b hb => by
  obtain ⟨cells, hc⟩ := own_typed (h.f2.own _ hm) b hb
  exact ⟨cells, 2, hc, rfl⟩
theorem PS.stays2 (h : PS w0 w gp gt f t0 g) {v : Value} {xs : List Int} (hm : (v, xs) ∈ g.vs.map hv ++ g.ks.map hv) (hg : w.grownBy w1 v.ownBlock) {b t : Nat} {cs : Array Value} (h1 : w.heap[b]? = some (.cells cs t (0, 0))) (ht : t ≠ 2) : w1.heap[b]? = w.heap[b]? := by
  refine hg.block b (blk_lt h1) (fun e => ?_)
  obtain ⟨cells, t', h2, rfl⟩ := h.typed2 hm b e.symm
  rw [h1] at h2
  injection h2 with h2
  injection h2 with _ h2
  exact ht h2
theorem PS.view_grew (h : PS w0 w gp gt f t0 g) (i : Nat) {t : Sl} {xs : List Int} (hq : g.vs[i]? = some (t, xs)) {gv n cv : Nat} (hvo : g.vo = (some ⟨gv, 0, none⟩, n, cv)) {t1 : Sl} {xs1 : List Int} (hG : Grew w0 w w1 (slv t) (slv t1) xs1) :
    PS w0 (w1.setCell ⟨gv, i, none⟩ (slv t1)) gp gt f t0 { g with vs := g.vs.set i (t1, xs1) } := by
  obtain ⟨ho, hb, hg, hat⟩ := hG
  have hlt := (List.getElem?_eq_some_iff.1 hq).1
  have hq2 : (g.vs.map hv ++ g.ks.map hv)[i]? = some (slv t, xs) := by
    rw [List.getElem?_append_left (by rw [List.length_map]; exact hlt), List.getElem?_map, hq]
    rfl
  have hmem : (slv t, xs) ∈ g.vs.map hv ++ g.ks.map hv := List.mem_iff_getElem?.2 ⟨i, hq2⟩
  have ty : ∀ {e : Nat}, e ≠ 2 → ∀ b, (slv t).ownBlock = some b → ∃ cells t, w.heap[b]? = some (.cells cells t (0, 0)) ∧ e ≠ t := fun he b hb => by
    obtain ⟨cells, t, h1, rfl⟩ := h.typed2 hmem b hb
    exact ⟨cells, _, h1, he⟩
  have bp := (h.stays2 hmem hg h.bp (by decide)).trans h.bp
  have bt := (h.stays2 hmem hg h.bt (by decide)).trans h.bt
  have f3 := fam_grown h.f3 hg (ty (by decide))
  have f28 := fam_grown h.f28 hg (ty (by decide))
  have f24 := fam_grown h.f24 hg (ty (by decide))
  have mg := mg_grown h.mg k3_E hg (ty (by decide))
  have f2 := fam_grew (h1 := fun _ => rfl) h.f2 i hq2 ho hg hat
  rw [show (slv g.vo) = .slice (some ⟨gv, 0, none⟩) n cv from by rw [hvo]; rfl] at f28
  have f28' := fam_wrote (h1 := slv_one) f28 0 rfl i t1
  have hbase : w0.heap.size ≤ gv ∧ gv < w1.heap.size := f28.lt (List.mem_cons_self ..) rfl
  obtain ⟨cells28, h28⟩ := own_typed (f28.own _ (List.mem_cons_self ..)) gv rfl
  have keep : ∀ b, b < w1.heap.size → b ≠ gv → (w1.setCell ⟨gv, i, none⟩ (slv t1)).heap[b]? = w1.heap[b]? := fun b hb hn =>
    ((Kept.refl w1 (fun k => k = gv)).setCell (p := ⟨gv, i, none⟩) (.inl rfl) (slv t1)).2 b hb hn
  have n1 : gp ≠ gv := blk_ne bp h28 (by decide)
  have n2 : gt ≠ gv := blk_ne bt h28 (by decide)
  refine ⟨hb.setCell (p := ⟨gv, i, none⟩) hbase.1 _, (keep gp (blk_lt bp) n1).trans bp, h.gep, (keep gt (blk_lt bt) n2).trans bt, h.get, ?_, f3.far h28 (by decide) keep, ?_, f24.far h28 (by decide) keep, ?_, h.pk⟩
  · have h3 := f2.far h28 (by decide) keep
    rw [show ({ g with vs := g.vs.set i (t1, xs1) } : Gh).vs.map hv ++ ({ g with vs := g.vs.set i (t1, xs1) } : Gh).ks.map hv = (g.vs.map hv ++ g.ks.map hv).set i (slv t1, xs1) from by
      rw [List.set_append_left _ _ (by rw [List.length_map]; exact hlt)]
      show (g.vs.set i (t1, xs1)).map hv ++ _ = _
      rw [List.map_set]
      rfl]
    exact h3
  · simp only [List.set_cons_zero] at f28'
    rw [show ({ g with vs := g.vs.set i (t1, xs1) } : Gh).vs.map (·.1) = (g.vs.map (·.1)).set i t1 from by show (g.vs.set i (t1, xs1)).map (·.1) = _; rw [List.map_set], show slv ({ g with vs := g.vs.set i (t1, xs1) } : Gh).vo = .slice (some ⟨gv, 0, none⟩) n cv from by show slv g.vo = _; rw [hvo]; rfl]
    exact f28'
  · exact mg_grown mg k3_E (row := some gv) ⟨rfl, rfl, rfl, by simp, fun b hb hn => keep b hb (fun e => hn (by rw [e]))⟩ (fun b hb => by injection hb with hb; subst hb; exact ⟨_, _, h28, by decide⟩)
end
end Go.Proofs.Ytamfkglnejhjdaa.PlayState

namespace Go.Proofs.Ytamfkglnejhjdaa.PlayState
open Go.RowKit Go.Proofs.YtamfkglnejhjdaaW.PrintWords Go.Proofs.Ytamfkglnejhjdaa.Fam
set_option linter.unusedVariables false
section
variable {w0 w w1 w2 : World} {gp gt : Nat} {f t0 : List Value} {g : Gh}
/-- A row that is new: nothing else turns (what an append to nil leaves). -/
theorem PS.look_row (h : PS w0 w gp gt f t0 g) {t1 : Sl} {xs1 : List Int} (hG : Grew w0 w w1 (.slice none 0 0) (slv t1) xs1) :
    PS w0 w1 gp gt f t0 g ∧ Fam (Value.int .i64) 2 w1 w0.heap.size ((g.vs.map hv ++ g.ks.map hv) ++ [(slv t1, xs1)]) := by
  obtain ⟨ho, hb, hg, hat⟩ := hG
  have hg' : w.grownBy w1 none := hg
  have same : ∀ b, b < w.heap.size → w1.heap[b]? = w.heap[b]? := fun b hlt => hg'.block b hlt (by simp)
  have no : ∀ {e : Nat} (b : Nat), (none : Option Nat) = some b → ∃ cells t, w.heap[b]? = some (.cells cells t (0, 0)) ∧ e ≠ t := fun b e => by cases e
  have f2 := h.f2.add (Kd.own_of_R ho) same (fun b hb => by
    rcases hat with e | ⟨b', e, hl⟩
    · rw [hb] at e; cases e
    · rw [hb] at e; injection e with e; subst e; exact hl)
  exact ⟨⟨hb, (same gp (blk_lt h.bp)).trans h.bp, h.gep, (same gt (blk_lt h.bt)).trans h.bt, h.get, fam_grown h.f2 hg' no, fam_grown h.f3 hg' no, fam_grown h.f28 hg' no, fam_grown h.f24 hg' no, mg_grown h.mg k3_E hg' no, h.pk⟩, f2⟩
/-- The looks' outer row has grown, and its header is written into what is told. -/
theorem PS.look_made (h : PS w0 w gp gt f t0 g) (ht0 : t0.length = 3) {t1 : Sl} {xs1 : List Int} (hf2 : Fam (Value.int .i64) 2 w w0.heap.size ((g.vs.map hv ++ g.ks.map hv) ++ [(slv t1, xs1)])) {ok : Nat → Prop} {t2 : Sl}
    (ho : Kd.R kSl 28 w1 w0.heap.size ok (slv t2) (g.ks.map (·.1) ++ [t1])) (hb : Below w0.heap.size w0 w1) (hg : w.grownBy w1 (slv g.ko).ownBlock) (hat : (slv t2).ownBlock = (slv g.ko).ownBlock ∨ ∃ b, (slv t2).ownBlock = some b ∧ w.heap.size ≤ b) :
    PS w0 (w1.setCell ⟨gt, 3, none⟩ (slv t2)) gp gt f t0 { g with ks := g.ks ++ [(t1, xs1)], ko := t2 } := by
  have ty : ∀ {e : Nat}, e ≠ 28 → ∀ b, (slv g.ko).ownBlock = some b → ∃ cells t, w.heap[b]? = some (.cells cells t (0, 0)) ∧ e ≠ t := fun he b hb => by
    obtain ⟨cells, hc⟩ := own_typed (h.f28.own _ (List.mem_cons_of_mem _ (List.mem_singleton.2 rfl))) b hb
    exact ⟨cells, _, hc, he⟩
  have blk : ∀ {b t : Nat} {cs : Array Value}, w.heap[b]? = some (.cells cs t (0, 0)) → t ≠ 28 → w1.heap[b]? = some (.cells cs t (0, 0)) := fun {b t cs} h1 ht => by
    refine (hg.block b (blk_lt h1) (fun e => ?_)).trans h1
    obtain ⟨cells, t', h2, h3⟩ := ty ht b e.symm
    rw [h1] at h2
    injection h2 with h2
    injection h2 with _ h2
    exact h3 h2
  have bp := blk h.bp (by decide)
  have bt := blk h.bt (by decide)
  have f2 := fam_grown hf2 hg (ty (by decide))
  have f3 := fam_grown h.f3 hg (ty (by decide))
  have f24 := fam_grown h.f24 hg (ty (by decide))
  have mg := mg_grown h.mg k3_E hg (ty (by decide))
  have f28 := fam_grew (h1 := slv_one) h.f28 1 rfl ho hg hat
  simp only [List.set_cons_zero, List.set_cons_succ] at f28
  have keep : ∀ b, b < w1.heap.size → b ≠ gt → (w1.setCell ⟨gt, 3, none⟩ (slv t2)).heap[b]? = w1.heap[b]? := fun b hb hn =>
    ((Kept.refl w1 (fun k => k = gt)).setCell (p := ⟨gt, 3, none⟩) (.inl rfl) (slv t2)).2 b hb hn
  have hne : gp ≠ gt := blk_ne bp bt (by decide)
  refine ⟨hb.setCell (p := ⟨gt, 3, none⟩) h.get _, (keep gp (blk_lt bp) hne).trans bp, h.gep, ?_, h.get, ?_, f3.far bt (by decide) keep, ?_, f24.far bt (by decide) keep, ?_, h.pk⟩
  · obtain ⟨a, b, c', rfl⟩ : ∃ a b c', t0 = [a, b, c'] := by
      match t0, ht0 with
      | [a, b, c'], _ => exact ⟨a, b, c', rfl⟩
    exact blk_put bt 3 _ rfl
  · have h3 := f2.far bt (by decide) keep
    rw [show g.vs.map hv ++ g.ks.map hv ++ [(slv t1, xs1)] = g.vs.map hv ++ (g.ks ++ [(t1, xs1)]).map hv from by rw [List.map_append, List.append_assoc]; rfl] at h3
    exact h3
  · have h3 := f28.far bt (by decide) keep
    rw [show g.ks.map (·.1) ++ [t1] = (g.ks ++ [(t1, xs1)]).map (·.1) from by rw [List.map_append]; rfl] at h3
    exact h3
  · exact mg_grown mg k3_E (row := some gt) ⟨rfl, rfl, rfl, by simp, fun b hb hn => keep b hb (fun e => hn (by rw [e]))⟩ (fun b hb => by injection hb with hb; subst hb; exact ⟨_, _, bt, by decide⟩)
end
end Go.Proofs.Ytamfkglnejhjdaa.PlayState

namespace Go.Proofs.Ytamfkglnejhjdaa.PlayState
open Go.RowKit Go.Proofs.YtamfkglnejhjdaaW.PrintWords Go.Proofs.YtamfkglnejhjdaaW.PrintLast Go.Proofs.YtamfkglnejhjdaaW.PrintMore Go.Proofs.Ytamfkglnejhjdaa.Fam
set_option linter.unusedSimpArgs false
set_option linter.unusedVariables false

def K29 : Bool × List (List Nat × List Nat) := (true, [([], []), ([0], [0]), ([], []), ([2], [2]), ([3], [3]), ([1, 4, 3], [1, 4]), ([0, 1, 2, 3, 4, 5], []), ([6, 5, 5, 0, 1, 2, 3, 4, 5], [5, 6])])
def K29B : List Nat := [0, 1, 0, 4, 12, 31, 63, 127]
theorem K29_tab : rtab .any (opsOf Try.f29 0) = K29 := by kernel_rfl
theorem K29_bits : waitsOk K29.2 K29B = true := by kernel_rfl

set_option maxHeartbeats 8000000 in
set_option maxRecDepth 100000 in
theorem look_walk {w0 w : World} {gp gt : Nat} {f t0 : List Value} {g : Gh} (h : PS w0 w gp gt f t0 g) (A : Option Addr) (c : Nat) (ys : List Int) (kA : Option Addr) (kn kc : Nat) (hl : ys.length ≤ 4194304) (hl2 : g.ks.length ≤ 4194304) (Pst : World → Prop)
    (hS : ∀ w', PS w0 w' gp gt f t0 g → w'.cell? ⟨gt, 3, none⟩ = some (.slice kA kn kc))
    (hC : ∀ w', PS w0 w' gp gt f t0 g → Kd.C (Kd.int .i64) w' A ys.length ys)
    (hO : ∀ w', PS w0 w' gp gt f t0 g → Kd.R kSl 28 w' w0.heap.size (fun b => (Value.slice kA kn kc).ownBlock = some b ∨ w'.heap.size ≤ b) (.slice kA kn kc) (g.ks.map (fun h : Hd => h.1)))
    (hM : ∀ w' w1 (t1 t2 : Sl) (ok : Nat → Prop), PS w0 w' gp gt f t0 g → Fam (Value.int .i64) 2 w' w0.heap.size ((g.vs.map hv ++ g.ks.map hv) ++ [(slv t1, ys)]) → Kd.R kSl 28 w1 w0.heap.size ok (slv t2) (g.ks.map (fun h : Hd => h.1) ++ [t1]) → Below w0.heap.size w0 w1 → w'.grownBy w1 (Value.slice kA kn kc).ownBlock → ((slv t2).ownBlock = (Value.slice kA kn kc).ownBlock ∨ ∃ b, (slv t2).ownBlock = some b ∧ w'.heap.size ≤ b) → Pst (w1.setCell ⟨gt, 3, none⟩ (slv t2)))
    (hT2 : ∀ w' w1, PS w0 w' gp gt f t0 g → w'.grownBy w1 (Value.slice kA kn kc).ownBlock → w1.cell? ⟨gt, 3, none⟩ = some (.slice kA kn kc) ∧ w1.frozen? ⟨gt, 3, none⟩ = false) :
    Calls Try.prog 29 #[.slice A ys.length c, .pointer (some ⟨gt, 0, none⟩)] w fun e w' => e = .returned (.tuple #[]) ∧ Pst w' := by
  have HV := Aside0.mk h
  clear h
  go_enter Try.func29, Try.ntmps29
  refine start_ (n := 8) (S := (fun w' => w'.cell? ⟨gt, 3, none⟩ = some (.slice kA kn kc))) (ds := [7]) #[false, false, false, false, false, false, false, false] (by kernel_rfl) rfl rfl (hS w HV.out) (fun hHeld => ?_); refine with_tabW K29_tab K29_bits (fun HT_ HW_ => ?_)
  have HV1 := Aside0.mk (show PS w0 w.drew gp gt f t0 g from HV.out.below (Drawn0.below ⟨⟨1, rfl⟩⟩))
  clear HV
  generalize w.drew = w1 at HV1 hHeld ⊢
  refine pure_ (i := 0) (N := some 3) (v := ?_) (a' := ?_) #[true, false, false, false, false, false, false, false] rfl rfl (any_of HT_.out (by kernel_rfl)) (fun _ _ _ h => h) (Or.inl ⟨by rfl, ?_⟩) ?_ ?_
  rotate_left
  · intro w'
    go_simp
    with_reducible rfl
  rotate_left
  · simp only [Act.put, List.setIfInBounds_toArray, List.set_cons_zero, List.set_cons_succ, i64_w, i32_w]
    rfl
  refine take_ (i := 1) (N := some 4) (v := ?_) (a' := ?_) #[true, true, false, false, false, false, false, false] rfl rfl (take_ofW HT_.out HW_.out (by kernel_rfl)) (fun _ _ _ h => h) (Or.inl ⟨by rfl, ?_⟩) hHeld ?_ ?_
  rotate_left
  · rintro w' s0
    go_simp
    with_reducible rfl
  rotate_left
  · simp only [Act.put, List.setIfInBounds_toArray, List.set_cons_zero, List.set_cons_succ, i64_w, i32_w]
    rfl
  refine pure_ (i := 2) (N := some 5) (v := ?_) (a' := ?_) #[true, true, true, false, false, false, false, false] rfl rfl (any_of HT_.out (by kernel_rfl)) (fun _ _ _ h => h) (Or.inl ⟨by rfl, ?_⟩) ?_ ?_
  rotate_left
  · intro w'
    go_simp
    with_reducible rfl
  rotate_left
  · simp only [Act.put, List.setIfInBounds_toArray, List.set_cons_zero, List.set_cons_succ, i64_w, i32_w]
    rfl
  refine one_ (i := 3) (N := some 6) #[true, true, true, true, false, false, false, false] rfl rfl (one_of HT_.out (by kernel_rfl)) (by decide) (fun K hK => ?_)
  refine Kd.R_append_rows_step (Kd.int .i64) (w0 := w0) w0.heap.size (by rfl) (.const (.slice none 0 0)) (.tmp 5) 28 2 (.int .i64 0) 8 rfl Try.underlying28 info2 rfl (by decide) (by omega) (.slice none 0 0) [] ys _ _ _ (fun _ => True) (fun _ => False) rfl rfl ?aO ?aR (fun _ _ h => h) (fun _ h => h.elim) ?aF ?aB ?aS ?aL ?_
  (case aR => exact hC w1 HV1.out)
  (case aB => exact HV1.out.hb)
  (case aF => exact (fun _ _ => trivial))
  (case aO => exact Kd.R_nil _ _ _ _ _)
  (case aS => exact (below_size HV1.out.hb))
  (case aL => simp; omega)
  intro v1 w5 ho hb hg hat
  obtain ⟨A1, c1, rfl, _, _⟩ := Kd.R_reads ho
  rw [List.nil_append] at ho hat ⊢
  have HG := Aside0.mk (HV1.out.look_row (t1 := (A1, ys.length, c1)) (xs1 := ys) ⟨ho, hb, hg, hat⟩)
  clear ho hb hg hat HV1
  refine hK.out _ _ (hS w5 HG.out.1) (fun hHeld => ?_)
  clear hK K
  refine norm_ (a' := ?_) ?_ ?_
  rotate_left
  · show Act.put _ (some 6) _ = _
    simp only [Act.put, List.setIfInBounds_toArray, List.set_cons_zero, List.set_cons_succ, i64_w, i32_w]
    rfl
  refine one_ (i := 4) (N := some 7) #[true, true, true, true, true, false, false, false] rfl rfl (one_of HT_.out (by kernel_rfl)) (by decide) (fun K hK => ?_)
  refine value_ (w1 := ?_) (v := ?_) (by rfl) rfl ?_ ?_
  rotate_left 2
  · go_simp
    constructor
    · rfl
    · rfl
  refine hK.out _ _ (hS _ (HG.out.1.below (below_alloc (Below.refl _ _) _))) (fun hHeld => ?_)
  clear hK K
  refine norm_ (a' := ?_) ?_ ?_
  rotate_left
  · show Act.put _ (some 7) _ = _
    simp only [Act.put, List.setIfInBounds_toArray, List.set_cons_zero, List.set_cons_succ, i64_w, i32_w]
    rfl
  refine one_ (i := 5) (N := some 8) #[true, true, true, true, true, true, false, false] rfl rfl (one_of HT_.out (by kernel_rfl)) (by decide) (fun K hK => ?_)
  refine Kd.R_append_step kSl (w0 := w0) w0.heap.size (by rfl) (.tmp 4) (.tmp 7) 37 28 (.slice none 0 0) 24 rfl Try.underlying37 infoV rfl (by decide) (by omega) (.slice kA kn kc) (g.ks.map (fun h : Hd => h.1)) (A1, ys.length, c1) [.slice A1 ys.length c1] (fun b => (Value.slice kA kn kc).ownBlock = some b ∨ w5.heap.size ≤ b) (fun _ => False) rfl rfl ?aP (fun _ hk => hk.elim) ?aF ?aO ?aB ?aS ?aL ?_
  (case aP => exact rfl)
  (case aB => exact HG.out.1.hb)
  (case aF => exact (fun k_ hk => .inr hk))
  (case aO => exact hO w5 HG.out.1)
  (case aS => exact (below_size HG.out.1.hb))
  (case aL => rw [List.length_map]; omega)
  intro v2 w9 ho hb hg hat
  obtain ⟨A2, c2, rfl, _, _⟩ := Kd.R_reads ho
  have F := hM w5 w9 (A1, ys.length, c1) (A2, _, c2) _ HG.out.1 HG.out.2 ho hb hg hat
  have hT := hT2 w5 w9 HG.out.1 hg
  have HF := Aside0.mk F
  clear ho hb hg hat F
  refine hK.out _ _ hT.1 (fun hHeld => ?_)
  clear hK K
  refine norm_ (a' := ?_) ?_ ?_
  rotate_left
  · show Act.put _ (some 8) _ = _
    simp only [Act.put, List.setIfInBounds_toArray, List.set_cons_zero, List.set_cons_succ, i64_w, i32_w]
    rfl
  refine pure_ (i := 6) (N := some 9) (v := ?_) (a' := ?_) #[true, true, true, true, true, true, true, false] rfl rfl (any_of HT_.out (by kernel_rfl)) (fun _ _ _ h => h) (Or.inl ⟨by rfl, ?_⟩) ?_ ?_
  rotate_left
  · intro w'
    go_simp
    with_reducible rfl
  rotate_left
  · simp only [Act.put, List.setIfInBounds_toArray, List.set_cons_zero, List.set_cons_succ, i64_w, i32_w]
    rfl
  have hfz := hT.2
  refine last_ (i := 7) (N := none) #[true, true, true, true, true, true, true, true] rfl rfl (one_of HT_.out (by kernel_rfl)) (by decide) (fun K hK => ?_)
  refine skip_ (w1 := ?_) (by rfl) rfl ?_ ?_
  rotate_left
  · go_simp
    rfl
  refine hK.out _ _ ?_
  clear hK K
  refine done_ (done_of HT_.out (by kernel_rfl)) ?_
  clear HT_ HW_ hHeld

  go_wp2
  go_end0
  exact ⟨rfl, by simpa [slv] using HF.out⟩
end Go.Proofs.Ytamfkglnejhjdaa.PlayState

namespace Go.Proofs.Ytamfkglnejhjdaa.PlayState
open Go.RowKit Go.Proofs.YtamfkglnejhjdaaW.PrintWords Go.Proofs.Ytamfkglnejhjdaa.Fam
set_option linter.unusedVariables false
theorem look_calls {w0 w : World} {gp gt : Nat} {f t0 : List Value} {g : Gh} (h : PS w0 w gp gt f t0 g) (ht0 : t0.length = 3) (i : Nat) {A : Option Addr} {n c : Nat} {ys : List Int} (hq : g.vs[i]? = some ((A, n, c), ys)) (hl : ys.length ≤ 4194304) (hl2 : g.ks.length ≤ 4194304) :
    Calls Try.prog 29 #[.slice A n c, .pointer (some ⟨gt, 0, none⟩)] w fun e w' => e = .returned (.tuple #[]) ∧ ∃ t ko, PS w0 w' gp gt f t0 { g with ks := g.ks ++ [(t, ys)], ko := ko } := by
  have hlt := (List.getElem?_eq_some_iff.1 hq).1
  have hmem : (slv (A, n, c), ys) ∈ g.vs.map hv ++ g.ks.map hv := List.mem_append_left _ (List.mem_map.2 ⟨_, List.mem_iff_getElem?.2 ⟨i, hq⟩, rfl⟩)
  have hn : n = ys.length := (Kd.R_reads' (Fam.R (h1 := fun _ => rfl) h.f2 hmem)).1
  subst hn
  obtain ⟨⟨kA, kn, kc⟩, hko⟩ : ∃ t : Sl, g.ko = t := ⟨_, rfl⟩
  have hb3 : ∀ w', PS w0 w' gp gt f t0 g → w'.cell? ⟨gt, 3, none⟩ = some (.slice kA kn kc) := fun w' h' => by
    obtain ⟨a, b, c', rfl⟩ : ∃ a b c', t0 = [a, b, c'] := by
      match t0, ht0 with
      | [a, b, c'], _ => exact ⟨a, b, c', rfl⟩
    rw [(blk_cell h'.bt 3).trans rfl, hko]
    rfl
  have hst : ∀ w' w1, PS w0 w' gp gt f t0 g → w'.grownBy w1 (Value.slice kA kn kc).ownBlock → w1.heap[gt]? = w'.heap[gt]? := fun w' w1 h' hg => by
    refine hg.block gt (blk_lt h'.bt) (fun e => ?_)
    obtain ⟨cells, h2⟩ := own_typed (h'.f28.own _ (List.mem_cons_of_mem _ (List.mem_singleton.2 rfl))) gt (by show (slv g.ko).ownBlock = _; rw [hko]; exact e.symm)
    rw [h'.bt] at h2
    injection h2 with h2
    injection h2 with _ h2
    exact absurd h2 (by decide)
  exact look_walk h A c ys kA kn kc hl hl2 (fun w' => ∃ t ko, PS w0 w' gp gt f t0 { g with ks := g.ks ++ [(t, ys)], ko := ko }) hb3
    (fun w' h' => (Kd.R_reads' (Fam.R (h1 := fun _ => rfl) h'.f2 hmem)).2.2)
    (fun w' h' => by
      have h2 := Fam.R (h1 := slv_one) h'.f28 (List.mem_cons_of_mem _ (List.mem_singleton.2 rfl))
      rw [hko] at h2
      exact Kd.R_mono h2 (fun b hb => .inl hb))
    (fun w' w1 t1 t2 ok h' hf2 ho hb hg hat => ⟨t1, t2, h'.look_made ht0 hf2 ho hb (by rw [hko]; exact hg) (by rw [hko]; exact hat)⟩)
    (fun w' w1 h' hg => ⟨(World.cell?_of_block (hst w' w1 h' hg)).trans (hb3 w' h'), (World.frozen?_of_block (hst w' w1 h' hg)).trans (blk_frozen h'.bt 3)⟩)
end Go.Proofs.Ytamfkglnejhjdaa.PlayState

namespace Go.Proofs.Ytamfkglnejhjdaa.Play
/-- What a merge keeps: the views ahead of the current row, the row, what all hold. -/
structure MI (pre row : List Nat) (vs : List (List Int)) (L : List Int) : Prop where
  sorted : (pre ++ row).Pairwise (· < ·)
  bound : ∀ i, i ∈ pre ++ row → i < vs.length
  value : flat vs (pre ++ row) = L
theorem MI.step {pre row : List Nat} {vs : List (List Int)} {L : List Int} (h : MI pre row vs L) {j : Nat} (hjl : j + 1 < row.length) :
    MI pre (row.eraseIdx (j + 1)) (vs.set (row.getD j 0) (red.join (vs.getD (row.getD j 0) red.fresh) (vs.getD (row.getD (j + 1) 0) red.fresh))) L := by
  obtain ⟨hp, hb, hv⟩ := h
  have es := split_at hjl
  have ee := erase_at hjl
  generalize row.getD j 0 = a at *
  generalize row.getD (j + 1) 0 = b at *
  generalize row.take j = A at *
  generalize row.drop (j + 2) = B at *
  rw [ee]
  subst es
  have hsub : (pre ++ (A ++ a :: B)).Sublist (pre ++ (A ++ a :: b :: B)) :=
    (List.Sublist.refl pre).append ((List.Sublist.refl A).append ((List.sublist_cons_self b B).cons_cons a))
  have halt : a < vs.length := hb a (by simp)
  refine ⟨hp.sublist hsub, fun i hi => by rw [List.length_set]; exact hb i (hsub.subset hi), ?_⟩
  have hp2 := hp
  rw [← List.append_assoc, List.pairwise_append] at hp2
  obtain ⟨hpA, hpB, hpx⟩ := hp2
  have hA' : flat (vs.set a (red.join (vs.getD a red.fresh) (vs.getD b red.fresh))) (pre ++ A) = flat vs (pre ++ A) := flat_same (fun i hi => getD_set_ne _ _ _ _ _ (fun e => by
    subst e
    have := hpx a hi a (by simp)
    omega))
  have hB' : flat (vs.set a (red.join (vs.getD a red.fresh) (vs.getD b red.fresh))) B = flat vs B := flat_same (fun i hi => getD_set_ne _ _ _ _ _ (fun e => by
    subst e
    rw [List.pairwise_cons] at hpB
    have := hpB.1 a (by simp [hi])
    omega))
  rw [← hv, ← List.append_assoc, ← List.append_assoc, flat_append _ (pre ++ A) (a :: B), flat_append _ (pre ++ A) (a :: b :: B), flat_cons, flat_cons, flat_cons, hA', hB', getD_set_self _ _ _ _ halt]
  simp [red]
theorem MI.len {pre row : List Nat} {vs : List (List Int)} {L : List Int} (h : MI pre row vs L) {j : Nat} (hjl : j + 1 < row.length) :
    (vs.getD (row.getD j 0) []).length + (vs.getD (row.getD (j + 1) 0) []).length ≤ L.length := by
  have es := split_at hjl
  have hv := h.value
  generalize row.getD j 0 = a at *
  generalize row.getD (j + 1) 0 = b at *
  rw [es, flat_append, flat_append, flat_cons, flat_cons] at hv
  rw [← hv]
  simp only [List.length_append]
  omega
theorem MI.lt {pre row : List Nat} {vs : List (List Int)} {L : List Int} (h : MI pre row vs L) {j : Nat} (hj : j < row.length) : row.getD j 0 < vs.length := by
  refine h.bound _ (List.mem_append_right _ ?_)
  rw [List.getD_eq_getElem?_getD, List.getElem?_eq_getElem hj]
  exact List.getElem_mem hj
theorem MI.at_len {pre row : List Nat} {vs : List (List Int)} {L : List Int} (h : MI pre row vs L) {i : Nat} (hi : i ∈ pre ++ row) : (vs.getD i []).length ≤ L.length := by
  obtain ⟨A, B, e⟩ := List.append_of_mem hi
  have hv := h.value
  rw [e, flat_append, flat_cons] at hv
  rw [← hv]
  simp only [List.length_append]
  omega
/-- From what holds of a play: what a merge begins with. -/
theorem Inv.mi {s : St (List Int)} {L : List Int} (h : Inv s L) : ∃ pre, MI pre s.cur s.views L ∧ live s.cur s.up = pre ++ s.cur := by
  obtain ⟨pre, hpre⟩ := live_pre h.linked
  have e0 := (hpre s.cur rfl).1
  exact ⟨pre, ⟨by rw [← e0]; exact h.sorted, by rw [← e0]; exact h.bound, by rw [← e0]; exact h.value⟩, e0⟩
end Go.Proofs.Ytamfkglnejhjdaa.Play

namespace Go.Proofs.Ytamfkglnejhjdaa.PlayState
open Go.RowKit Go.Proofs.YtamfkglnejhjdaaW.PrintWords Go.Proofs.Ytamfkglnejhjdaa.Fam Go.Proofs.Ytamfkglnejhjdaa.Play
set_option linter.unusedVariables false
def ints (l : List Nat) : List Int := l.map (fun i : Nat => (i : Int))
def mgs (l : List Mg) : List (Int × Int × Int) := l.map (fun m : Mg => ((m.1 : Int), (m.2.1 : Int), (m.2.2 : Int)))
structure Rep0 (s : St (List Int)) (g : Gh) : Prop where
  vs : g.vs.map (·.2) = s.views
  ks : g.ks.map (·.2) = s.looks
  rs : g.rs.map (·.2) = s.up.reverse.map ints ++ [ints s.cur]
  sp : g.sp.2 = ints s.spawns.reverse
  ps : g.ps = s.picks
  ms : g.ms = mgs s.merges
structure Rep (s : St (List Int)) (g : Gh) : Prop extends Rep0 s g where
  oh : g.oh = g.rs.map (·.1)
theorem ints_length (l : List Nat) : (ints l).length = l.length := by simp [ints]
theorem ints_getD (l : List Nat) (i : Nat) : (ints l).getD i 0 = ((l.getD i 0 : Nat) : Int) := by
  unfold ints
  rw [List.getD_eq_getElem?_getD, List.getD_eq_getElem?_getD, List.getElem?_map]
  cases l[i]? <;> rfl
theorem ints_erase (l : List Nat) (i : Nat) : (ints l).eraseIdx i = ints (l.eraseIdx i) := by
  unfold ints
  rw [List.eraseIdx_eq_take_drop_succ, List.eraseIdx_eq_take_drop_succ, List.map_append, List.map_take, List.map_drop]
section
variable {s : St (List Int)} {g : Gh}
theorem Rep0.views_len (h : Rep0 s g) : g.vs.length = s.views.length := by rw [← h.vs, List.length_map]
theorem Rep0.looks_len (h : Rep0 s g) : g.ks.length = s.looks.length := by rw [← h.ks, List.length_map]
theorem Rep0.rows_len (h : Rep0 s g) : g.rs.length = s.up.length + 1 := by
  have := congrArg List.length h.rs
  simpa using this
/-- The last row. -/
theorem Rep0.last (h : Rep0 s g) : ∃ (rs : List Hd) (c : Hd), g.rs = rs ++ [c] ∧ c.2 = ints s.cur ∧ rs.map (·.2) = s.up.reverse.map ints ∧ rs.length = s.up.length := by
  have hl := h.rows_len
  have hne : g.rs ≠ [] := fun e => by rw [e] at hl; simp at hl
  refine ⟨g.rs.dropLast, g.rs.getLast hne, (List.dropLast_concat_getLast hne).symm, ?_, ?_, by rw [List.length_dropLast]; omega⟩
  · have e := h.rs
    rw [← List.dropLast_concat_getLast hne, List.map_append] at e
    have := List.append_inj' e rfl
    simpa using this.2
  · have e := h.rs
    rw [← List.dropLast_concat_getLast hne, List.map_append] at e
    exact (List.append_inj' e rfl).1
theorem Rep0.view (h : Rep0 s g) {i : Nat} (hi : i < s.views.length) : ∃ t : Sl, g.vs[i]? = some (t, s.views.getD i []) := by
  have hi2 : i < g.vs.length := by rw [h.views_len]; exact hi
  refine ⟨(g.vs[i]).1, ?_⟩
  have e : s.views.getD i [] = (g.vs[i]).2 := by rw [← h.vs]; simp [List.getD_eq_getElem?_getD, hi2]
  rw [e, List.getElem?_eq_getElem hi2]
end
/-- One step of a merge. -/
def mstep (t : Nat) (s : St (List Int)) : St (List Int) :=
  { s with
    cur := s.cur.eraseIdx (pickOf s.picks (s.cur.length - 1) + 1)
    views := s.views.set (s.cur.getD (pickOf s.picks (s.cur.length - 1)) 0) (red.join (s.views.getD (s.cur.getD (pickOf s.picks (s.cur.length - 1)) 0) red.fresh) (s.views.getD (s.cur.getD (pickOf s.picks (s.cur.length - 1) + 1) 0) red.fresh))
    picks := s.picks.tail
    merges := s.merges ++ [(t, s.cur.getD (pickOf s.picks (s.cur.length - 1)) 0, s.cur.getD (pickOf s.picks (s.cur.length - 1) + 1) 0)] }
theorem mstep_len (t : Nat) (s : St (List Int)) (h : 2 ≤ s.cur.length) : (mstep t s).cur.length = s.cur.length - 1 := by
  show (s.cur.eraseIdx _).length = _
  obtain ⟨n, hn⟩ : ∃ n, s.cur.length = n + 2 := ⟨s.cur.length - 2, by omega⟩
  have := pick_lt s.picks n
  rw [List.length_eraseIdx_of_lt (by rw [hn]; show pickOf _ (n + 1) + 1 < n + 2; omega)]
theorem mstep_merge (t : Nat) (s : St (List Int)) (h : 2 ≤ s.cur.length) : (mstep t s).merge red t = s.merge red t := by
  obtain ⟨n, hn⟩ : ∃ n, s.cur.length = n + 2 := ⟨s.cur.length - 2, by omega⟩
  have hl := mstep_len t s h
  unfold St.merge
  rw [hl, hn]
  simp only [Nat.add_sub_cancel, show n + 2 - 1 = n + 1 from by omega]
  have e : mergeGo red t (n + 1) s.cur s.views s.picks s.merges = mergeGo red t n (mstep t s).cur (mstep t s).views (mstep t s).picks (mstep t s).merges := by
    unfold mstep
    rw [hn]
    rfl
  rw [e]
  rfl
theorem merge_done (t : Nat) (s : St (List Int)) (h : s.cur.length ≤ 1) : s.merge red t = s := by
  unfold St.merge
  rw [show s.cur.length - 1 = 0 from by omega]
  rfl
end Go.Proofs.Ytamfkglnejhjdaa.PlayState

namespace Go.Proofs.Ytamfkglnejhjdaa.PlayState
open Go.RowKit Go.Proofs.YtamfkglnejhjdaaW.PrintWords Go.Proofs.YtamfkglnejhjdaaW.PrintLast Go.Proofs.YtamfkglnejhjdaaW.PrintMore Go.Proofs.Ytamfkglnejhjdaa.Fam Go.Proofs.Ytamfkglnejhjdaa.Play
set_option linter.unusedVariables false
theorem info44 : (Try.prog.info? 44).map (fun i => (i.zero, i.size, i.bytes)) = some (some (.agg #[.int .i64 0, .int .i64 0, .int .i64 0]), 3, 24) := by kernel_rfl
section
variable {w0 w w1 : World} {gp gt : Nat} {f t0 : List Value} {g : Gh}
/-- The last row has been written in place, or lies elsewhere; its outer header is as it was. -/
theorem PS.row_cut (h : PS w0 w gp gt f t0 g) {rs : List Hd} {c : Hd} (hr : g.rs = rs ++ [c]) {ok : Nat → Prop} {t1 : Sl} {xs1 : List Int}
    (ho : Kd.R (Kd.int .i64) 3 w1 w0.heap.size ok (slv t1) xs1) (hb : Below w0.heap.size w0 w1) (hg : w.grownBy w1 (slv c.1).ownBlock) (hat : (slv t1).ownBlock = (slv c.1).ownBlock ∨ ∃ b, (slv t1).ownBlock = some b ∧ w.heap.size ≤ b) :
    PS w0 w1 gp gt f t0 { g with rs := rs ++ [(t1, xs1)] } := by
  have hq : (g.rs.map hv ++ [hv g.sp])[rs.length]? = some (slv c.1, c.2) := by
    rw [hr, List.map_append, List.append_assoc, List.getElem?_append_right (by simp)]
    simp [hv]
  have hmem : (slv c.1, c.2) ∈ g.rs.map hv ++ [hv g.sp] := List.mem_iff_getElem?.2 ⟨_, hq⟩
  have ty : ∀ {e : Nat}, e ≠ 3 → ∀ b, (slv c.1).ownBlock = some b → ∃ cells t, w.heap[b]? = some (.cells cells t (0, 0)) ∧ e ≠ t := fun he b hb => by
    obtain ⟨cells, t, h1, rfl⟩ := h.typed3 hmem b hb
    exact ⟨cells, _, h1, he⟩
  have bp := (h.stays3 hmem hg h.bp (by decide)).trans h.bp
  have bt := (h.stays3 hmem hg h.bt (by decide)).trans h.bt
  have f3 := fam_grew (h1 := fun _ => rfl) h.f3 rs.length hq ho hg hat
  refine ⟨hb, bp, h.gep, bt, h.get, fam_grown h.f2 hg (ty (by decide)), ?_, fam_grown h.f28 hg (ty (by decide)), fam_grown h.f24 hg (ty (by decide)), mg_grown h.mg k3_E hg (ty (by decide)), h.pk⟩
  rw [show (g.rs.map hv ++ [hv g.sp]).set rs.length (slv t1, xs1) = (rs ++ [(t1, xs1)]).map hv ++ [hv g.sp] from by
    rw [hr, List.map_append, List.append_assoc, List.set_append_right _ _ (by simp)]
    simp [hv]] at f3
  exact f3
/-- The last row's header is put into the outer row. -/
theorem PS.row_put (h : PS w0 w gp gt f t0 g) {os : List Sl} {o : Sl} (hoh : g.oh = os ++ [o]) {gr n cr : Nat} (hro : g.ro = (some ⟨gr, 0, none⟩, n, cr)) (t1 : Sl) :
    PS w0 (w.setCell ⟨gr, os.length, none⟩ (slv t1)) gp gt f t0 { g with oh := os ++ [t1] } := by
  have f24 := h.f24
  rw [show slv g.ro = .slice (some ⟨gr, 0, none⟩) n cr from by rw [hro]; rfl] at f24
  have f24' := fam_wrote (h1 := slv_one) f24 0 rfl os.length t1
  have hbase : w0.heap.size ≤ gr ∧ gr < w.heap.size := f24.lt (List.mem_cons_self ..) rfl
  obtain ⟨cells24, h24⟩ := own_typed (f24.own _ (List.mem_cons_self ..)) gr rfl
  have keep : ∀ b, b < w.heap.size → b ≠ gr → (w.setCell ⟨gr, os.length, none⟩ (slv t1)).heap[b]? = w.heap[b]? := fun b hb hn =>
    ((Kept.refl w (fun k => k = gr)).setCell (p := ⟨gr, os.length, none⟩) (.inl rfl) (slv t1)).2 b hb hn
  have n1 : gp ≠ gr := blk_ne h.bp h24 (by decide)
  have n2 : gt ≠ gr := blk_ne h.bt h24 (by decide)
  refine ⟨h.hb.setCell (p := ⟨gr, os.length, none⟩) hbase.1 _, (keep gp (blk_lt h.bp) n1).trans h.bp, h.gep, (keep gt (blk_lt h.bt) n2).trans h.bt, h.get, h.f2.far h24 (by decide) keep, h.f3.far h24 (by decide) keep, h.f28.far h24 (by decide) keep, ?_, ?_, h.pk⟩
  · simp only [List.set_cons_zero] at f24'
    rw [show slv ({ g with oh := os ++ [t1] } : Gh).ro = .slice (some ⟨gr, 0, none⟩) n cr from by show slv g.ro = _; rw [hro]; rfl]
    show Fam slv 24 _ _ [(_, os ++ [t1])]
    rw [hoh, List.set_append_right _ _ (Nat.le_refl _), Nat.sub_self] at f24'
    exact f24'
  · exact mg_grown h.mg k3_E (row := some gr) ⟨rfl, rfl, rfl, by simp, fun b hb hn => keep b hb (fun e => hn (by rw [e]))⟩ (fun b hb => by injection hb with hb; subst hb; exact ⟨_, _, h24, by decide⟩)
theorem PS.typed44 (h : PS w0 w gp gt f t0 g) : ∀ b, (slv g.mo).ownBlock = some b → ∃ cells, w.heap[b]? = some (.cells cells 44 (0, 0)) := Kd.R_typed h.mg
theorem PS.stays44 (h : PS w0 w gp gt f t0 g) (hg : w.grownBy w1 (slv g.mo).ownBlock) {b t : Nat} {cs : Array Value} (h1 : w.heap[b]? = some (.cells cs t (0, 0))) (ht : t ≠ 44) : w1.heap[b]? = w.heap[b]? := by
  refine hg.block b (blk_lt h1) (fun e => ?_)
  obtain ⟨cells, h2⟩ := h.typed44 b e.symm
  rw [h1] at h2
  injection h2 with h2
  injection h2 with _ h2
  exact ht h2
/-- A merge has been told, the header of the merges is written. -/
theorem PS.told (h : PS w0 w gp gt f t0 g) (hf : f.length = 4) {ok : Nat → Prop} {t1 : Sl} {ms1 : List (Int × Int × Int)}
    (ho : Kd.R k3 44 w1 w0.heap.size ok (slv t1) ms1) (hb : Below w0.heap.size w0 w1) (hg : w.grownBy w1 (slv g.mo).ownBlock) :
    PS w0 (w1.setCell ⟨gp, 8, none⟩ (slv t1)) gp gt f t0 { g with ms := ms1, mo := t1 } := by
  have ty : ∀ {e : Nat}, e ≠ 44 → ∀ b, (slv g.mo).ownBlock = some b → ∃ cells t, w.heap[b]? = some (.cells cells t (0, 0)) ∧ e ≠ t := fun he b hb => by
    obtain ⟨cells, h1⟩ := h.typed44 b hb
    exact ⟨cells, _, h1, he⟩
  have bp := (h.stays44 hg h.bp (by decide)).trans h.bp
  have bt := (h.stays44 hg h.bt (by decide)).trans h.bt
  have f2 := fam_grown h.f2 hg (ty (by decide))
  have f3 := fam_grown h.f3 hg (ty (by decide))
  have f28 := fam_grown h.f28 hg (ty (by decide))
  have f24 := fam_grown h.f24 hg (ty (by decide))
  have keep : ∀ b, b < w1.heap.size → b ≠ gp → (w1.setCell ⟨gp, 8, none⟩ (slv t1)).heap[b]? = w1.heap[b]? := fun b hb hn =>
    ((Kept.refl w1 (fun k => k = gp)).setCell (p := ⟨gp, 8, none⟩) (.inl rfl) (slv t1)).2 b hb hn
  have hne : gt ≠ gp := blk_ne bt bp (by decide)
  refine ⟨hb.setCell (p := ⟨gp, 8, none⟩) h.gep _, ?_, h.gep, (keep gt (blk_lt bt) hne).trans bt, h.get, f2.far bp (by decide) keep, f3.far bp (by decide) keep, f28.far bp (by decide) keep, f24.far bp (by decide) keep, ?_, h.pk⟩
  · obtain ⟨a, b, c', d, rfl⟩ : ∃ a b c' d, f = [a, b, c', d] := by
      match f, hf with
      | [a, b, c', d], _ => exact ⟨a, b, c', d, rfl⟩
    exact blk_put bp 8 _ rfl
  · exact mg_grown (Kd.R_mono ho (fun _ _ => trivial)) k3_E (row := some gp) ⟨rfl, rfl, rfl, by simp, fun b hb hn => keep b hb (fun e => hn (by rw [e]))⟩ (fun b hb => by injection hb with hb; subst hb; exact ⟨_, _, bp, by decide⟩)
end
/-- What holds at the head of a merge's round: s0 as the merge began, s as it stands. -/
structure ML (w0 w : World) (gp gt : Nat) (f t0 : List Value) (t : Nat) (pre : List Nat) (L : List Int) (s0 s : St (List Int)) (g : Gh) (rs : List Hd) (ro : Sl) (oh : List Sl) (tr : Sl) (V M : Nat) : Prop where
  ps : PS w0 w gp gt f t0 g
  rep : Rep0 s g
  hrs : g.rs = rs ++ [(tr, ints s.cur)]
  hro : g.ro = ro
  hoh : g.oh = oh
  mi : MI pre s.cur s.views L
  go : s.merge red t = s0.merge red t
  hV : s.views.length ≤ V
  hM : s.merges.length + s.cur.length ≤ M
end Go.Proofs.Ytamfkglnejhjdaa.PlayState

namespace Go.Proofs.Ytamfkglnejhjdaa.PlayState
open Go.RowKit Go.Proofs.YtamfkglnejhjdaaW.PrintWords
set_option linter.unusedVariables false
set_option maxHeartbeats 2000000 in
set_option maxRecDepth 100000 in
theorem mod_calls (x : Int) (n : Nat) (hn : 0 < n) (hn2 : n ≤ 4194304) (w : World) :
    Calls Try.prog 43 #[.int .i64 x, .int .i64 (n : Int)] w fun e w' => e = .returned (.int .i64 (x % (n : Int))) ∧ Drawn0 w w' := by
  have h1 := Int.emod_nonneg x (show (n : Int) ≠ 0 by omega)
  have h2 := Int.emod_lt_of_pos x (show (0 : Int) < (n : Int) by omega)
  have h3 : ((n : Int)).natAbs = n := by omega
  have ht := Int.tmod_eq_emod (a := x) (b := (n : Int))
  have HL := Aside0.mk h1
  have HU := Aside0.mk h2
  have c3 : decide ((n : Int) < 1) = false := decide_eq_false (by omega)
  have c4 : ((n : Int) == 0) = false := beq_eq_false_iff_ne.mpr (by omega)
  have c5 : ((n : Int) != 0) = true := bne_iff_ne.mpr (by omega)
  by_cases hc : 0 ≤ x ∨ (n : Int) ∣ x
  · rw [if_pos hc] at ht
    have HR := Aside0.mk (show x.tmod (n : Int) = x % (n : Int) by omega)
    have c6 : decide (x.tmod (n : Int) < 0) = false := decide_eq_false (by omega)
    clear ht h1 h2 h3 hc
    go_enter Try.func43, Try.ntmps43
    go_wp2
    go_ret
    exact ⟨by rw [← HR.out]; rfl, by repeat (first | exact Drawn0.refl _ | apply Drawn0.step)⟩
  · rw [if_neg hc, h3] at ht
    have HR := Aside0.mk (show wrap64 (x.tmod (n : Int) + (n : Int)) = x % (n : Int) by rw [BitMath.wrap_id (by unfold BitMath.In64; omega)]; omega)
    have c6 : decide (x.tmod (n : Int) < 0) = true := decide_eq_true (by omega)
    clear ht h1 h2 h3 hc
    go_enter Try.func43, Try.ntmps43
    go_wp2
    go_ret
    exact ⟨by rw [← HR.out]; rfl, by repeat (first | exact Drawn0.refl _ | apply Drawn0.step)⟩
end Go.Proofs.Ytamfkglnejhjdaa.PlayState

namespace Go.Proofs.Ytamfkglnejhjdaa.PlayState
open Go.Proofs.Ytamfkglnejhjdaa.PHyperSerial (info3)
open Go.RowKit Go.Proofs.YtamfkglnejhjdaaW.PrintWords Go.Proofs.YtamfkglnejhjdaaW.PrintLast Go.Proofs.YtamfkglnejhjdaaW.PrintMore Go.Proofs.Ytamfkglnejhjdaa.Fam Go.Proofs.Ytamfkglnejhjdaa.Play
set_option linter.unusedSimpArgs false
set_option linter.unusedVariables false

def M37a : Bool × List (List Nat × List Nat) := (true, [([], []), ([], []), ([0, 1], [0, 1]), ([2], [2]), ([], []), ([], []), ([5], [5]), ([4, 6], [4, 6]), ([7], [7]), ([3, 0, 1, 2, 3], [3]), ([8, 9, 0, 1, 2, 3, 4, 5, 6, 7, 8, 9], [8])])
def M37aB : List Nat := [0, 0, 3, 7, 0, 0, 32, 112, 240, 15, 1023]
theorem M37a_tab : rtab .any (opsOf Try.f37 6) = M37a := by kernel_rfl
theorem M37a_bits : waitsOk M37a.2 M37aB = true := by kernel_rfl
def M37b : Bool × List (List Nat × List Nat) := (true, [([], []), ([0], [0]), ([1], [1]), ([2], [2]), ([], []), ([], []), ([5], [5]), ([6], [6]), ([7], [7]), ([8], [8]), ([], []), ([10], [10]), ([11], [11]), ([12], [12]), ([], []), ([13, 14], [13, 14]), ([15], [15]), ([], []), ([17], [17]), ([18], [18]), ([19], [19]), ([], []), ([20, 21], [20, 21]), ([22], [22]), ([9, 16, 23], [9, 16, 23]), ([3, 4, 0, 1, 2, 3, 4, 5, 6, 7, 8, 9, 10, 11, 12, 13, 14, 15, 16, 17, 18, 19, 20, 21, 22, 23, 24], [3, 4]), ([25, 24, 24, 0, 1, 2, 3, 4, 5, 6, 7, 8, 9, 10, 11, 12, 13, 14, 15, 16, 17, 18, 19, 20, 21, 22, 23, 24], [24, 25])])
def M37bB : List Nat := [0, 1, 3, 7, 0, 0, 32, 96, 224, 480, 0, 1024, 3072, 7168, 0, 31744, 64512, 0, 131072, 393216, 917504, 0, 4063232, 8257536, 16777184, 33554431, 67108863]
theorem M37b_tab : rtab .any (opsOf Try.f37 7) = M37b := by kernel_rfl
theorem M37b_bits : waitsOk M37b.2 M37bB = true := by kernel_rfl
def M37c : Bool × List (List Nat × List Nat) := (true, [([], []), ([], []), ([1], [1]), ([0, 2], [0, 2]), ([], []), ([], []), ([5], [5]), ([4, 6], [4, 6]), ([3, 7], [3, 7]), ([8, 8, 0, 1, 2, 3, 4, 5, 6, 7, 8], [0, 4, 8])])
def M37cB : List Nat := [0, 0, 2, 7, 0, 0, 32, 112, 255, 511]
theorem M37c_tab : rtab .any (opsOf Try.f37 9) = M37c := by kernel_rfl
theorem M37c_bits : waitsOk M37c.2 M37cB = true := by kernel_rfl

theorem mod_pick (ps : List Int) (m : Nat) (hm : 0 < m) (hm2 : m ≤ 4194304) (x y : Int) (hx : x = ps.headD 0) (hy : y = (m : Int)) (w : World) :
    Calls Try.prog 43 #[.int .i64 x, .int .i64 y] w fun e w' => e = .returned (.int .i64 ((pickOf ps m : Nat) : Int)) ∧ Drawn0 w w' := by
  subst hx hy
  have h1 := Int.emod_nonneg (ps.headD 0) (show (m : Int) ≠ 0 by omega)
  have e : ((pickOf ps m : Nat) : Int) = ps.headD 0 % (m : Int) := by unfold pickOf; omega
  rw [e]
  exact mod_calls _ m hm hm2 w
theorem wrap_add (j k : Nat) (h : j + k ≤ 9000000) : wrap64 ((j : Int) + (k : Int)) = (j : Int) + (k : Int) := BitMath.wrap_id (by unfold BitMath.In64; omega)
theorem ML.step {w0 w wn : World} {gp gt : Nat} {f t0 : List Value} {t : Nat} {pre : List Nat} {L : List Int} {s0 s : St (List Int)} {g : Gh} {rs : List Hd} {ro : Sl} {oh : List Sl} {tr : Sl} {V M : Nat} (h : ML w0 w gp gt f t0 t pre L s0 s g rs ro oh tr V M)
    {n j xa xb : Nat} {ya yb : List Int} (hn : s.cur.length = n) (h1n : 1 < n) (hj : j = pickOf s.picks (n - 1)) (hxa : xa = s.cur.getD j 0) (hxb : xb = s.cur.getD (j + 1) 0) (hya : ya = s.views.getD xa []) (hyb : yb = s.views.getD xb []) (hjl : j + 1 < n) {po t1 mo tr1 : Sl}
    (hps : PS w0 wn gp gt f t0 { g with ps := g.ps.tail, po := po, vs := g.vs.set xa (t1, ya ++ yb), ms := g.ms ++ [((t : Int), (xa : Int), (xb : Int))], mo := mo, rs := rs ++ [(tr1, (ints s.cur).eraseIdx (j + 1))] }) :
    ML w0 wn gp gt f t0 t pre L s0 (mstep t s) { g with ps := g.ps.tail, po := po, vs := g.vs.set xa (t1, ya ++ yb), ms := g.ms ++ [((t : Int), (xa : Int), (xb : Int))], mo := mo, rs := rs ++ [(tr1, (ints s.cur).eraseIdx (j + 1))] } rs ro oh tr1 V M := by
  have e1 : (mstep t s).cur = s.cur.eraseIdx (j + 1) := by show s.cur.eraseIdx _ = _; rw [hn, ← hj]
  have e2 : (mstep t s).views = s.views.set xa (red.join (s.views.getD xa red.fresh) (s.views.getD xb red.fresh)) := by show s.views.set _ _ = _; rw [hn, ← hj, ← hxa, ← hxb]
  have e3 : (mstep t s).merges = s.merges ++ [(t, xa, xb)] := by show s.merges ++ _ = _; rw [hn, ← hj, ← hxa, ← hxb]
  have hr := h.rep.rs
  rw [h.hrs, List.map_append] at hr
  have hr2 := (List.append_inj' hr rfl).1
  refine ⟨hps, ⟨?_, h.rep.ks, ?_, h.rep.sp, ?_, ?_⟩, ?_, h.hro, h.hoh, ?_, ?_, ?_, ?_⟩
  · show (g.vs.set xa (t1, ya ++ yb)).map (·.2) = _
    rw [e2, List.map_set, h.rep.vs, hya, hyb]
    rfl
  · show (rs ++ [(tr1, (ints s.cur).eraseIdx (j + 1))]).map (·.2) = _
    rw [List.map_append, hr2, e1, ints_erase]
    rfl
  · show g.ps.tail = s.picks.tail
    rw [h.rep.ps]
  · show g.ms ++ _ = _
    rw [e3, h.rep.ms]
    simp [mgs]
  · rw [e1, ints_erase]
  · rw [e1, e2, hxa, hxb]
    exact h.mi.step (by omega)
  · rw [mstep_merge t s (by omega)]
    exact h.go
  · rw [e2, List.length_set]
    exact h.hV
  · have := h.hM
    rw [e1, e3, List.length_append, List.length_eraseIdx_of_lt (by omega)]
    simp only [List.length_singleton]
    omega
theorem info3s : (Try.prog.info? 3).map (·.size) = some (Kd.int .i64).sz := by kernel_rfl

set_option maxHeartbeats 16000000 in
set_option maxRecDepth 100000 in
theorem merge_walk {w0 w : World} {gp gt : Nat} {f t0 : List Value} (t : Nat) (pre : List Nat) (L : List Int) (s0 : St (List Int)) (g0 : Gh) (rs : List Hd) (gr k cr : Nat) (oh : List Sl) (o : Sl) (tr : Sl) (V M : Nat)
    (hf : f.length = 4) (hjoin : f[2]? = some (.func (.func 28) #[] #[])) (hml : ML w0 w gp gt f t0 t pre L s0 s0 g0 rs (some ⟨gr, 0, none⟩, k + 1, cr) (oh ++ [o]) tr V M) (hok : o = tr) (hk : oh.length = k) (hk2 : k ≤ 4194304) (hL : L.length ≤ 2097152) (hV : V ≤ 4194304) (hM : M ≤ 2097152) (hn0 : s0.cur.length = tr.2.1) (Pst : World → Prop)
    (hP : ∀ w' s g tr', ML w0 w' gp gt f t0 t pre L s0 s g rs (some ⟨gr, 0, none⟩, k + 1, cr) (oh ++ [tr']) tr' V M → s.cur.length ≤ 1 → Pst w') :
    Calls Try.prog 37 #[.pointer (some ⟨gp, 0, none⟩), .int .i64 (t : Int)] w fun e w' => e = .returned (.tuple #[]) ∧ Pst w' := by
  obtain ⟨trA, trn, trc⟩ := tr
  have hOut : ∀ (w' : World) (s : St (List Int)) (g : Gh) (tr' : Sl) (o' : Sl), ML w0 w' gp gt f t0 t pre L s0 s g rs (some ⟨gr, 0, none⟩, k + 1, cr) (oh ++ [o']) tr' V M → w'.cell? ⟨gp, 5, none⟩ = some (.slice (some ⟨gr, 0, none⟩) (k + 1) cr) ∧ w'.cell? ⟨gr, k, none⟩ = some (slv o') ∧ w'.frozen? ⟨gr, k, none⟩ = false := fun w' s g tr' o' h => by
    have h1 := (h.ps.cell hf).2.1
    rw [h.hro] at h1
    obtain ⟨g2, c2, e1, hx, hfz⟩ := fam_at (h1 := slv_one) h.ps.f24 0 rfl (none, 0, 0) k (by rw [h.hoh, List.length_append, hk]; simp)
    have e2 := slv_form e1
    rw [h.hro] at e2
    obtain rfl : gr = g2 := by injection e2 with e2; injection e2 with e2; injection e2
    rw [h.hoh, show (oh ++ [o']).getD k (none, 0, 0) = o' from by rw [List.getD_eq_getElem?_getD, List.getElem?_append_right (by omega)]; simp [hk]] at hx
    exact ⟨h1, hx, hfz⟩
  obtain ⟨hx5, hxr, _⟩ := hOut w s0 g0 _ _ hml
  subst hok
  replace hxr : w.cell? ⟨gr, k, none⟩ = some (.slice trA trn trc) := hxr
  replace hn0 : s0.cur.length = trn := hn0
  have hk3 : (k : Int) ≤ 4194304 := by omega
  have hw1 : wrap64 ((k : Int) + 1 - 1) = (k : Int) := by rw [BitMath.wrap_id (by unfold BitMath.In64; omega)]; omega
  have hw3 : wrap64 (k : Int) = (k : Int) := BitMath.wrap_id (by unfold BitMath.In64; omega)
  have l1 : ((k : Int) < (k : Int) + 1) = True := eq_true (by omega)
  have HML := Aside0.mk hml
  have HOut := Aside0.mk hOut
  have HP := Aside0.mk hP
  have HJn := Aside0.mk hjoin
  have HK := Aside0.mk hk
  have HN0 := Aside0.mk hn0
  have HL := Aside0.mk (And.intro hL (And.intro hV hM))
  have hnb : (trn : Int) ≤ 4194304 := by have := hml.hM; omega
  clear hml hOut hP hjoin hk hn0 hL hV hM
  go_enter Try.func37, Try.ntmps37
  go_wp2
  go_loopw [5, 6] (fun v5 v6 w' => ∃ (A : Option Addr) (n c : Nat), v5 = .slice A n c ∧ v6 = .int .i64 (n : Int) ∧ (n : Int) ≤ 4194304 ∧ Aside0 (∃ s g, s.cur.length = n ∧ ML w0 w' gp gt f t0 t pre L s0 s g rs (some ⟨gr, 0, none⟩, k + 1, cr) (oh ++ [(trA, trn, trc)]) (A, n, c) V M)) (fun _ v6 _ => (intOf v6).toNat)
  case atStart => exact ⟨trA, trn, trc, rfl, by go_num, hnb, ⟨⟨s0, g0, HN0.out, HML.out⟩⟩⟩
  case round =>
    clear HML hx5 hxr hnb hw1 hw3
    obtain ⟨A, n, c, rfl, rfl, hnb, HS⟩ := hrel
    by_cases hn : 1 < n
    · obtain ⟨s, g, hsn, hml⟩ := HS.out
      clear HS
      have hd2 : decide ((1 : Int) < (n : Int)) = true := decide_eq_true (by omega)
      obtain ⟨j, hj⟩ : ∃ j, j = pickOf s.picks (n - 1) := ⟨_, rfl⟩
      have hjl : j + 1 < n := by
        have := pick_lt s.picks (n - 2)
        rw [show n - 2 + 1 = n - 1 from by omega] at this
        omega
      obtain ⟨xa, hxa⟩ : ∃ x, x = s.cur.getD j 0 := ⟨_, rfl⟩
      obtain ⟨xb, hxb⟩ : ∃ x, x = s.cur.getD (j + 1) 0 := ⟨_, rfl⟩
      have hla : xa < s.views.length := by rw [hxa]; exact hml.mi.lt (by omega)
      have hlb : xb < s.views.length := by rw [hxb]; exact hml.mi.lt (by omega)
      have hlen := hml.mi.len (j := j) (by omega)
      rw [← hxa, ← hxb] at hlen
      obtain ⟨⟨aA, an, ac⟩, hva⟩ := hml.rep.view hla
      obtain ⟨⟨bA, bn, bc⟩, hvb⟩ := hml.rep.view hlb
      obtain ⟨ya, hya⟩ : ∃ y, y = s.views.getD xa [] := ⟨_, rfl⟩
      obtain ⟨yb, hyb⟩ : ∃ y, y = s.views.getD xb [] := ⟨_, rfl⟩
      rw [← hya] at hva hlen
      rw [← hyb] at hvb hlen
      have hmem : (slv (A, n, c), ints s.cur) ∈ g.rs.map hv ++ [hv g.sp] := by rw [hml.hrs]; simp [hv]
      obtain ⟨gi, hgi⟩ : ∃ gi, A = some ⟨gi, 0, none⟩ := by
        obtain ⟨g2, c2, e1, _⟩ := Kd.R_form (Fam.R (h1 := fun _ => rfl) hml.ps.f3 hmem) (by rw [ints_length, hsn]; omega)
        exact ⟨g2, by have := slv_form e1; injection this⟩
      subst hgi
      have hnc : n ≤ c := (Kd.R_reads' (Fam.R (h1 := fun _ => rfl) hml.ps.f3 hmem)).2.1
      obtain ⟨x, hx⟩ : ∃ x, x = g.ps.headD 0 := ⟨_, rfl⟩
      have hps : g.ps = s.picks := hml.rep.ps
      have HPk := pick_calls hml.ps hf
      rw [← hx] at HPk
      have HPK := Aside0.mk HPk
      have HMd := Aside0.mk (fun w y hy => mod_pick s.picks (n - 1) (by omega) (by omega) x y (by rw [hx, hps]) hy w)
      obtain ⟨vn, hvn⟩ : ∃ vn, vn = s.views.length := ⟨_, rfl⟩
      obtain ⟨gv, vc, hgv⟩ : ∃ gv vc, g.vo = (some ⟨gv, 0, none⟩, vn, vc) := by
        obtain ⟨g2, c2, e1, _, _⟩ := fam_at (h1 := slv_one) hml.ps.f28 0 rfl (none, 0, 0) xa (by rw [List.length_map, hml.rep.views_len]; exact hla)
        have e2 := slv_form e1
        rw [List.length_map, hml.rep.views_len, ← hvn] at e2
        exact ⟨g2, c2, e2⟩
      have HMl := Aside0.mk hml
      have HSN := Aside0.mk hsn
      have HJJ := Aside0.mk hj
      have HXX := Aside0.mk (And.intro hxa hxb)
      have HLL := Aside0.mk (And.intro hla hlb)
      have HLen := Aside0.mk hlen
      have HV := Aside0.mk (And.intro hva hvb)
      have HY := Aside0.mk (And.intro hya hyb)
      have HMem := Aside0.mk hmem
      have HGV := Aside0.mk hgv
      have hf2 : f[2]? = some (.func (.func 28) #[] #[]) := HJn.out
      have e4 : ∀ (g' : Gh), (cells f g')[2]? = some (.func (.func 28) #[] #[]) := fun g' => by
        obtain ⟨a, b, c', d, rfl⟩ : ∃ a b c' d, f = [a, b, c', d] := by
          match f, hf with
          | [a, b, c', d], _ => exact ⟨a, b, c', d, rfl⟩
        simpa [cells] using hf2
      have hC6 : ∀ (g' : Gh), g'.rs = g.rs → g'.sp = g.sp → ∀ w', PS w0 w' gp gt f t0 g' → w'.cell? ⟨gi, j, none⟩ = some (.int .i64 (xa : Int)) ∧ w'.cell? ⟨gi, j + 1, none⟩ = some (.int .i64 (xb : Int)) := fun g' e1 e2 w' h => by
        have hq : (slv (some ⟨gi, 0, none⟩, n, c), ints s.cur) ∈ g'.rs.map hv ++ [hv g'.sp] := by rw [e1, e2]; exact hmem
        obtain ⟨i, hi⟩ := List.mem_iff_getElem?.1 hq
        have hl : (ints s.cur).length = n := by rw [ints_length]; exact hsn
        obtain ⟨g2, c2, e5, h5, _⟩ := fam_at (h1 := fun _ => rfl) h.f3 i hi 0 j (by omega)
        obtain ⟨g3, c3, e6, h6, _⟩ := fam_at (h1 := fun _ => rfl) h.f3 i hi 0 (j + 1) (by omega)
        have e5' := slv_form e5
        have e6' := slv_form e6
        injection e5' with e5' _
        injection e5' with e5'
        injection e5' with e5'
        injection e6' with e6' _
        injection e6' with e6'
        injection e6' with e6'
        subst e5' e6'
        rw [ints_getD, ← hxa] at h5
        rw [ints_getD, ← hxb] at h6
        exact ⟨h5, h6⟩
      have hC7 : ∀ (g' : Gh), g'.vs = g.vs → g'.vo = g.vo → ∀ w', PS w0 w' gp gt f t0 g' → w'.cell? ⟨gp, 4, none⟩ = some (.slice (some ⟨gv, 0, none⟩) vn vc) ∧ w'.cell? ⟨gp, 2, none⟩ = some (.func (.func 28) #[] #[]) ∧ w'.cell? ⟨gv, xa, none⟩ = some (.slice aA an ac) ∧ w'.cell? ⟨gv, xb, none⟩ = some (.slice bA bn bc) := fun g' e1 e2 w' h => by
        have h1 := (h.cell hf).1
        rw [e2, hgv] at h1
        have hq : ∀ i (t : Sl) ys, g.vs[i]? = some (t, ys) → w'.cell? ⟨gv, i, none⟩ = some (slv t) := fun i t ys hi => by
          have hlt := (List.getElem?_eq_some_iff.1 hi).1
          obtain ⟨g2, c2, e5, h5, _⟩ := fam_at (h1 := slv_one) h.f28 0 rfl (none, 0, 0) i (by rw [List.length_map, e1]; exact hlt)
          have e6 := slv_form e5
          rw [e2, hgv] at e6
          injection e6 with e6 _
          injection e6 with e6
          injection e6 with e6
          subst e6
          rw [h5, e1, List.getD_eq_getElem?_getD, List.getElem?_map, hi]
          rfl
        exact ⟨h1, (blk_cell h.bp 2).trans (e4 g'), hq _ _ _ hva, hq _ _ _ hvb⟩
      have hR7 : ∀ (g' : Gh), g'.vs = g.vs → ∀ w', PS w0 w' gp gt f t0 g' → Kd.R (Kd.int .i64) 2 w' w0.heap.size (fun _ => True) (.slice aA an ac) ya ∧ bn = yb.length ∧ Kd.C (Kd.int .i64) w' bA yb.length yb := fun g' e1 w' h => by
        have hm : ∀ (t : Sl) ys i, g.vs[i]? = some (t, ys) → (slv t, ys) ∈ g'.vs.map hv ++ g'.ks.map hv := fun t ys i hi => by
          rw [e1]
          exact List.mem_append_left _ (List.mem_map.2 ⟨_, List.mem_iff_getElem?.2 ⟨i, hi⟩, rfl⟩)
        have h1 := Fam.R (h1 := fun _ => rfl) h.f2 (hm _ _ _ hva)
        have h2 := Kd.R_reads' (Fam.R (h1 := fun _ => rfl) h.f2 (hm _ _ _ hvb))
        exact ⟨Kd.R_mono h1 (fun _ _ => trivial), h2.1, h2.2.2⟩
      have hJ : ∀ (g' : Gh), g'.vs = g.vs → ∀ w', PS w0 w' gp gt f t0 g' → Calls Try.prog 28 #[.slice aA an ac, .slice bA bn bc] w' fun e w'' => ∃ A1 n1 c1, e = .returned (.slice A1 n1 c1) ∧ Grew w0 w' w'' (.slice aA an ac) (.slice A1 n1 c1) (ya ++ yb) := fun g' e1 w' h => by
        obtain ⟨h1, h2, h3⟩ := hR7 g' e1 w' h
        subst h2
        refine (join_calls (.slice aA an ac) ya yb bA bc h1 h3 h.hb (by have := HL.out.1; omega) (by have := HL.out.1; omega)).mono ?_
        rintro e w'' ⟨v1, rfl, hG⟩
        obtain ⟨A1, c1, rfl, _, _⟩ := Kd.R_reads hG.1
        exact ⟨_, _, _, rfl, hG⟩
      have hm2 : ∀ (g' : Gh), g'.vs = g.vs → (slv (aA, an, ac), ya) ∈ g'.vs.map hv ++ g'.ks.map hv := fun g' e1 => by
        rw [e1]
        exact List.mem_append_left _ (List.mem_map.2 ⟨_, List.mem_iff_getElem?.2 ⟨_, hva⟩, rfl⟩)
      have hS7 : ∀ (g' : Gh), g'.vs = g.vs → g'.vo = g.vo → ∀ w' w1, PS w0 w' gp gt f t0 g' → w'.grownBy w1 (Value.slice aA an ac).ownBlock → (w1.cell? ⟨gp, 4, none⟩ = some (.slice (some ⟨gv, 0, none⟩) vn vc) ∧ w1.cell? ⟨gp, 2, none⟩ = some (.func (.func 28) #[] #[]) ∧ w1.cell? ⟨gv, xa, none⟩ = some (.slice aA an ac) ∧ w1.cell? ⟨gv, xb, none⟩ = some (.slice bA bn bc)) ∧ w1.frozen? ⟨gv, xa, none⟩ = false := fun g' e1 e2 w' w1 h hg => by
        have h1 := hC7 g' e1 e2 w' h
        have s1 := h.stays2 (hm2 g' e1) hg h.bp (by decide)
        obtain ⟨cells28, h28⟩ := own_typed (h.f28.own _ (List.mem_cons_self ..)) gv (by show (slv g'.vo).ownBlock = _; rw [e2, hgv]; rfl)
        have s2 := h.stays2 (hm2 g' e1) hg h28 (by decide)
        exact ⟨⟨(World.cell?_of_block s1).trans h1.1, (World.cell?_of_block s1).trans h1.2.1, (World.cell?_of_block s2).trans h1.2.2.1, (World.cell?_of_block s2).trans h1.2.2.2⟩, (World.frozen?_of_block s2).trans (blk_frozen h28 _)⟩
      obtain ⟨⟨mA, mn, mc⟩, hmo⟩ : ∃ t : Sl, g.mo = t := ⟨_, rfl⟩
      have hC8 : ∀ (g' : Gh), g'.mo = g.mo → ∀ w', PS w0 w' gp gt f t0 g' → w'.cell? ⟨gp, 8, none⟩ = some (.slice mA mn mc) ∧ w'.frozen? ⟨gp, 8, none⟩ = false := fun g' e1 w' h => by
        have h1 := (h.cell hf).2.2.2.2
        rw [e1, hmo] at h1
        exact ⟨h1, blk_frozen h.bp 8⟩
      have hS8 : ∀ (g' : Gh), g'.mo = g.mo → ∀ w' w1, PS w0 w' gp gt f t0 g' → w'.grownBy w1 (Value.slice mA mn mc).ownBlock → w1.cell? ⟨gp, 8, none⟩ = some (.slice mA mn mc) ∧ w1.frozen? ⟨gp, 8, none⟩ = false := fun g' e1 w' w1 h hg => by
        have s1 := h.stays44 (by rw [e1, hmo]; exact hg) h.bp (by decide)
        have h1 := hC8 g' e1 w' h
        exact ⟨(World.cell?_of_block s1).trans h1.1, (World.frozen?_of_block s1).trans h1.2⟩
      have hR8 : ∀ (g' : Gh), g'.mo = g.mo → ∀ w', PS w0 w' gp gt f t0 g' → Kd.R k3 44 w' w0.heap.size (fun _ => True) (.slice mA mn mc) g'.ms := fun g' e1 w' h => by
        have h1 := h.mg
        rw [e1, hmo] at h1
        exact h1
      have hR9 : ∀ (g' : Gh), g'.rs = g.rs → g'.sp = g.sp → ∀ w', PS w0 w' gp gt f t0 g' → Kd.R (Kd.int .i64) 3 w' w0.heap.size (fun _ => True) (.slice (some ⟨gi, 0, none⟩) n c) (ints s.cur) := fun g' e1 e2 w' h => by
        have hq : (slv (some ⟨gi, 0, none⟩, n, c), ints s.cur) ∈ g'.rs.map hv ++ [hv g'.sp] := by rw [e1, e2]; exact hmem
        exact Kd.R_mono (Fam.R (h1 := fun _ => rfl) h.f3 hq) (fun _ _ => trivial)
      have HC6 := Aside0.mk hC6
      have HC7 := Aside0.mk hC7
      have HJ := Aside0.mk hJ
      have HS7 := Aside0.mk hS7
      have HC8 := Aside0.mk hC8
      have HS8 := Aside0.mk hS8
      have HR8 := Aside0.mk hR8
      have HR9 := Aside0.mk hR9
      have HMo := Aside0.mk hmo
      have HML2 := Aside0.mk (show g.ms.length ≤ 2097152 by have := hml.hM; have := HL.out.2.2; rw [hml.rep.ms]; simp only [mgs, List.length_map]; omega)
      have hj2 : (j : Int) ≤ 4194304 := by omega
      have hxa2 : (xa : Int) ≤ 4194304 := by have := hml.hV; have := HL.out.2.1; omega
      have hxb2 : (xb : Int) ≤ 4194304 := by have := hml.hV; have := HL.out.2.1; omega
      have lj1 : ((j : Int) < (n : Int)) = True := eq_true (by omega)
      have lj2 : ((j : Int) + 1 < (n : Int)) = True := eq_true (by omega)
      have lj3 : (0 ≤ (j : Int) + 1) = True := eq_true (by omega)
      have la1 : ((xa : Int) < (vn : Int)) = True := eq_true (by omega)
      have lb1 : ((xb : Int) < (vn : Int)) = True := eq_true (by omega)
      have tj1 : ((j : Int) + 1).toNat = j + 1 := by omega
      obtain ⟨i0, hi0, hz1⟩ : ∃ i, Try.prog.info? 3 = some i ∧ i.size = 1 := by
        have h := info3
        cases e : Try.prog.info? 3 with
        | none => rw [e] at h; cases h
        | some i => rw [e] at h; injection h with h; injection h with _ h; injection h with h _; exact ⟨i, rfl, h⟩
      have hsl1 := cut_to (P := Try.prog) 24 3 .i64 Try.underlying24 hi0 (some ⟨gi, 0, none⟩) n c ((j : Int) + 1) (by omega) (by omega) hnc
      rw [tj1] at hsl1
      obtain ⟨Q, hQ, hsl2⟩ : ∃ Q : Option Addr, (Q = if c = j + 1 + 1 then some ⟨gi, 0, none⟩ else (some (⟨gi, 0, none⟩ : Addr)).map (·.add ((j + 1 + 1) * (Kd.int .i64).sz))) ∧ ∀ W : World, (Instr.slice 24 (.slice (some ⟨gi, 0, none⟩) n c) (some (.int .i64 ((j : Int) + 2))) none none).run Try.prog W = .ok (.slice Q (n - (j + 1 + 1)) (c - (j + 1 + 1))) W := by
        refine ⟨_, rfl, fun W => ?_⟩
        have h := cut_from (P := Try.prog) 24 3 .i64 Try.underlying24 hi0 1 hz1 (some ⟨gi, 0, none⟩) n c ((j : Int) + 2) (by omega) (by omega) W
        rw [show ((j : Int) + 2).toNat = j + 1 + 1 from by omega] at h
        exact h
      have HQ := Aside0.mk hQ
      have HVn := Aside0.mk hvn
      have HWJ := Aside0.mk (And.intro (show wrap64 ((j : Int) + 1) = (j : Int) + 1 from wrap_add j 1 (by omega)) (And.intro (show wrap64 ((j : Int) + 2) = (j : Int) + 2 from wrap_add j 2 (by omega)) (And.intro lj3 tj1)))
      clear lj3 tj1
      clear hf2 e4 hC6 hC7 hR7 hJ hm2 hS7 hC8 hS8 hR8 hR9 hmo hi0 hz1 hQ hvn
      clear hml hsn hj hxa hxb hla hlb hlen hva hvb hya hyb hmem hps HPk hx hgv
      go_wp2_with fail
      refine HPK.out.mono ?_
      rintro e w1 ⟨rfl, po, hps⟩
      have HP1 := Aside0.mk hps
      clear hps
      go_wp2_with fail
      refine (HMd.out _ _ (by omega)).mono ?_
      rintro e w2 ⟨rfl, hdr⟩
      have HP2 := Aside0.mk (HP1.out.below hdr.below)
      clear hdr HP1 HMd HPK
      rw [← HJJ.out]
      go_upto_region 6 with fail
      obtain ⟨wj1, -, lj3, tj1⟩ := HWJ.out
      refine start_ (n := 11) (S := (fun w' => w'.cell? ⟨gi, j, none⟩ = some (.int .i64 (xa : Int)) ∧ w'.cell? ⟨gi, j + 1, none⟩ = some (.int .i64 (xb : Int)))) (ds := [10]) #[false, false, false, false, false, false, false, false, false, false, false] (by kernel_rfl) rfl rfl (HC6.out { g with ps := g.ps.tail, po := po } rfl rfl w2 HP2.out) (fun hHeld => ?_); refine with_tabW M37a_tab M37a_bits (fun HT_ HW_ => ?_)
      have HP3 := Aside0.mk (HP2.out.below (w1 := w2.drew) (Drawn0.below ⟨⟨1, rfl⟩⟩))
      clear HP2
      generalize w2.drew = w3 at HP3 hHeld ⊢
      refine pure_ (i := 0) (N := some 34) (v := ?_) (a' := ?_) #[true, false, false, false, false, false, false, false, false, false, false] rfl rfl (any_of HT_.out (by kernel_rfl)) (fun _ _ _ h => h) (Or.inl ⟨by rfl, ?_⟩) ?_ ?_
      rotate_left
      · intro w'
        go_simp
        with_reducible rfl
      rotate_left
      · simp only [Act.put, List.setIfInBounds_toArray, List.set_cons_zero, List.set_cons_succ, i64_w, i32_w]
        rfl
      refine pure_ (i := 1) (N := some 35) (v := ?_) (a' := ?_) #[true, true, false, false, false, false, false, false, false, false, false] rfl rfl (any_of HT_.out (by kernel_rfl)) (fun _ _ _ h => h) (Or.inl ⟨by rfl, ?_⟩) ?_ ?_
      rotate_left
      · intro w'
        go_simp
        with_reducible rfl
      rotate_left
      · simp only [Act.put, List.setIfInBounds_toArray, List.set_cons_zero, List.set_cons_succ, i64_w, i32_w]
        rfl
      refine pure_ (i := 2) (N := some 36) (v := ?_) (a' := ?_) #[true, true, true, false, false, false, false, false, false, false, false] rfl rfl (any_of HT_.out (by kernel_rfl)) (fun _ _ _ h => h) (Or.inl ⟨by rfl, ?_⟩) ?_ ?_
      rotate_left
      · intro w'
        go_simp
        with_reducible rfl
      rotate_left
      · simp only [Act.put, List.setIfInBounds_toArray, List.set_cons_zero, List.set_cons_succ, i64_w, i32_w]
        rfl
      refine take_ (i := 3) (N := some 37) (v := ?_) (a' := ?_) #[true, true, true, true, false, false, false, false, false, false, false] rfl rfl (take_ofW HT_.out HW_.out (by kernel_rfl)) (fun _ _ _ h => h) (Or.inl ⟨by rfl, ?_⟩) hHeld ?_ ?_
      rotate_left
      · rintro w' ⟨s0, s1⟩
        go_simp
        with_reducible rfl
      rotate_left
      · simp only [Act.put, List.setIfInBounds_toArray, List.set_cons_zero, List.set_cons_succ, i64_w, i32_w]
        rfl
      refine pure_ (i := 4) (N := some 38) (v := ?_) (a' := ?_) #[true, true, true, true, true, false, false, false, false, false, false] rfl rfl (any_of HT_.out (by kernel_rfl)) (fun _ _ _ h => h) (Or.inl ⟨by rfl, ?_⟩) ?_ ?_
      rotate_left
      · intro w'
        go_simp
        with_reducible rfl
      rotate_left
      · simp only [Act.put, List.setIfInBounds_toArray, List.set_cons_zero, List.set_cons_succ, i64_w, i32_w]
        rfl
      refine pure_ (i := 5) (N := some 39) (v := ?_) (a' := ?_) #[true, true, true, true, true, true, false, false, false, false, false] rfl rfl (any_of HT_.out (by kernel_rfl)) (fun _ _ _ h => h) (Or.inl ⟨by rfl, ?_⟩) ?_ ?_
      rotate_left
      · intro w'
        go_simp
        with_reducible rfl
      rotate_left
      · simp only [Act.put, List.setIfInBounds_toArray, List.set_cons_zero, List.set_cons_succ, i64_w, i32_w]
        rfl
      refine pure_ (i := 6) (N := some 40) (v := ?_) (a' := ?_) #[true, true, true, true, true, true, true, false, false, false, false] rfl rfl (any_of HT_.out (by kernel_rfl)) (fun _ _ _ h => h) (Or.inl ⟨by rfl, ?_⟩) ?_ ?_
      rotate_left
      · intro w'
        go_simp
        with_reducible rfl
      rotate_left
      · simp only [Act.put, List.setIfInBounds_toArray, List.set_cons_zero, List.set_cons_succ, i64_w, i32_w]
        rfl
      refine pure_ (i := 7) (N := some 41) (v := ?_) (a' := ?_) #[true, true, true, true, true, true, true, true, false, false, false] rfl rfl (any_of HT_.out (by kernel_rfl)) (fun _ _ _ h => h) (Or.inl ⟨by rfl, ?_⟩) ?_ ?_
      rotate_left
      · intro w'
        go_simp
        with_reducible rfl
      rotate_left
      · simp only [Act.put, List.setIfInBounds_toArray, List.set_cons_zero, List.set_cons_succ, i64_w, i32_w]
        rfl
      refine take_ (i := 8) (N := some 42) (v := ?_) (a' := ?_) #[true, true, true, true, true, true, true, true, true, false, false] rfl rfl (take_ofW HT_.out HW_.out (by kernel_rfl)) (fun _ _ _ h => h) (Or.inl ⟨by rfl, ?_⟩) hHeld ?_ ?_
      rotate_left
      · rintro w' ⟨s0, s1⟩
        go_simp
        with_reducible rfl
      rotate_left
      · simp only [Act.put, List.setIfInBounds_toArray, List.set_cons_zero, List.set_cons_succ, i64_w, i32_w]
        rfl
      refine pure_ (i := 9) (N := some 8) (v := ?_) (a' := ?_) #[true, true, true, true, true, true, true, true, true, true, false] rfl rfl (any_of HT_.out (by kernel_rfl)) (fun _ _ _ h => h) (Or.inl ⟨by rfl, ?_⟩) ?_ ?_
      rotate_left
      · intro w'
        go_simp
        with_reducible rfl
      rotate_left
      · simp only [Act.put, List.setIfInBounds_toArray, List.set_cons_zero, List.set_cons_succ, i64_w, i32_w]
        rfl
      refine pure_ (i := 10) (N := some 9) (v := ?_) (a' := ?_) #[true, true, true, true, true, true, true, true, true, true, true] rfl rfl (any_of HT_.out (by kernel_rfl)) (fun _ _ _ h => h) (Or.inl ⟨by rfl, ?_⟩) ?_ ?_
      rotate_left
      · intro w'
        go_simp
        with_reducible rfl
      rotate_left
      · simp only [Act.put, List.setIfInBounds_toArray, List.set_cons_zero, List.set_cons_succ, i64_w, i32_w]
        rfl
      refine done_ (done_of HT_.out (by kernel_rfl)) ?_
      clear HT_ HW_ hHeld

      clear wj1 lj3 tj1
      go_upto_region 7 with fail
      refine start_ (n := 27) (S := (fun w' => w'.cell? ⟨gp, 4, none⟩ = some (.slice (some ⟨gv, 0, none⟩) vn vc) ∧ w'.cell? ⟨gp, 2, none⟩ = some (.func (.func 28) #[] #[]) ∧ w'.cell? ⟨gv, xa, none⟩ = some (.slice aA an ac) ∧ w'.cell? ⟨gv, xb, none⟩ = some (.slice bA bn bc))) (ds := [26]) #[false, false, false, false, false, false, false, false, false, false, false, false, false, false, false, false, false, false, false, false, false, false, false, false, false, false, false] (by kernel_rfl) rfl rfl (HC7.out { g with ps := g.ps.tail, po := po } rfl rfl w3 HP3.out) (fun hHeld => ?_); refine with_tabW M37b_tab M37b_bits (fun HT_ HW_ => ?_)
      have HP4 := Aside0.mk (HP3.out.below (w1 := w3.drew) (Drawn0.below ⟨⟨1, rfl⟩⟩))
      clear HP3
      generalize w3.drew = w4 at HP4 hHeld ⊢
      refine pure_ (i := 0) (N := some 43) (v := ?_) (a' := ?_) #[true, false, false, false, false, false, false, false, false, false, false, false, false, false, false, false, false, false, false, false, false, false, false, false, false, false, false] rfl rfl (any_of HT_.out (by kernel_rfl)) (fun _ _ _ h => h) (Or.inl ⟨by rfl, ?_⟩) ?_ ?_
      rotate_left
      · intro w'
        go_simp
        with_reducible rfl
      rotate_left
      · simp only [Act.put, List.setIfInBounds_toArray, List.set_cons_zero, List.set_cons_succ, i64_w, i32_w]
        rfl
      refine pure_ (i := 1) (N := some 44) (v := ?_) (a' := ?_) #[true, true, false, false, false, false, false, false, false, false, false, false, false, false, false, false, false, false, false, false, false, false, false, false, false, false, false] rfl rfl (any_of HT_.out (by kernel_rfl)) (fun _ _ _ h => h) (Or.inl ⟨by rfl, ?_⟩) ?_ ?_
      rotate_left
      · intro w'
        go_simp
        with_reducible rfl
      rotate_left
      · simp only [Act.put, List.setIfInBounds_toArray, List.set_cons_zero, List.set_cons_succ, i64_w, i32_w]
        rfl
      refine pure_ (i := 2) (N := some 45) (v := ?_) (a' := ?_) #[true, true, true, false, false, false, false, false, false, false, false, false, false, false, false, false, false, false, false, false, false, false, false, false, false, false, false] rfl rfl (any_of HT_.out (by kernel_rfl)) (fun _ _ _ h => h) (Or.inl ⟨by rfl, ?_⟩) ?_ ?_
      rotate_left
      · intro w'
        go_simp
        with_reducible rfl
      rotate_left
      · simp only [Act.put, List.setIfInBounds_toArray, List.set_cons_zero, List.set_cons_succ, i64_w, i32_w]
        rfl
      refine take_ (i := 3) (N := some 46) (v := ?_) (a' := ?_) #[true, true, true, true, false, false, false, false, false, false, false, false, false, false, false, false, false, false, false, false, false, false, false, false, false, false, false] rfl rfl (take_ofW HT_.out HW_.out (by kernel_rfl)) (fun _ _ _ h => h) (Or.inl ⟨by rfl, ?_⟩) hHeld ?_ ?_
      rotate_left
      · rintro w' ⟨s0, s1, s2, s3⟩
        go_simp
        with_reducible rfl
      rotate_left
      · simp only [Act.put, List.setIfInBounds_toArray, List.set_cons_zero, List.set_cons_succ, i64_w, i32_w]
        rfl
      refine pure_ (i := 4) (N := some 47) (v := ?_) (a' := ?_) #[true, true, true, true, true, false, false, false, false, false, false, false, false, false, false, false, false, false, false, false, false, false, false, false, false, false, false] rfl rfl (any_of HT_.out (by kernel_rfl)) (fun _ _ _ h => h) (Or.inl ⟨by rfl, ?_⟩) ?_ ?_
      rotate_left
      · intro w'
        go_simp
        with_reducible rfl
      rotate_left
      · simp only [Act.put, List.setIfInBounds_toArray, List.set_cons_zero, List.set_cons_succ, i64_w, i32_w]
        rfl
      refine pure_ (i := 5) (N := some 48) (v := ?_) (a' := ?_) #[true, true, true, true, true, true, false, false, false, false, false, false, false, false, false, false, false, false, false, false, false, false, false, false, false, false, false] rfl rfl (any_of HT_.out (by kernel_rfl)) (fun _ _ _ h => h) (Or.inl ⟨by rfl, ?_⟩) ?_ ?_
      rotate_left
      · intro w'
        go_simp
        with_reducible rfl
      rotate_left
      · simp only [Act.put, List.setIfInBounds_toArray, List.set_cons_zero, List.set_cons_succ, i64_w, i32_w]
        rfl
      refine pure_ (i := 6) (N := some 49) (v := ?_) (a' := ?_) #[true, true, true, true, true, true, true, false, false, false, false, false, false, false, false, false, false, false, false, false, false, false, false, false, false, false, false] rfl rfl (any_of HT_.out (by kernel_rfl)) (fun _ _ _ h => h) (Or.inl ⟨by rfl, ?_⟩) ?_ ?_
      rotate_left
      · intro w'
        go_simp
        with_reducible rfl
      rotate_left
      · simp only [Act.put, List.setIfInBounds_toArray, List.set_cons_zero, List.set_cons_succ, i64_w, i32_w]
        rfl
      refine pure_ (i := 7) (N := some 50) (v := ?_) (a' := ?_) #[true, true, true, true, true, true, true, true, false, false, false, false, false, false, false, false, false, false, false, false, false, false, false, false, false, false, false] rfl rfl (any_of HT_.out (by kernel_rfl)) (fun _ _ _ h => h) (Or.inl ⟨by rfl, ?_⟩) ?_ ?_
      rotate_left
      · intro w'
        go_simp
        with_reducible rfl
      rotate_left
      · simp only [Act.put, List.setIfInBounds_toArray, List.set_cons_zero, List.set_cons_succ, i64_w, i32_w]
        rfl
      refine pure_ (i := 8) (N := some 51) (v := ?_) (a' := ?_) #[true, true, true, true, true, true, true, true, true, false, false, false, false, false, false, false, false, false, false, false, false, false, false, false, false, false, false] rfl rfl (any_of HT_.out (by kernel_rfl)) (fun _ _ _ h => h) (Or.inl ⟨by rfl, ?_⟩) ?_ ?_
      rotate_left
      · intro w'
        go_simp
        with_reducible rfl
      rotate_left
      · simp only [Act.put, List.setIfInBounds_toArray, List.set_cons_zero, List.set_cons_succ, i64_w, i32_w]
        rfl
      refine take_ (i := 9) (N := some 52) (v := ?_) (a' := ?_) #[true, true, true, true, true, true, true, true, true, true, false, false, false, false, false, false, false, false, false, false, false, false, false, false, false, false, false] rfl rfl (take_ofW HT_.out HW_.out (by kernel_rfl)) (fun _ _ _ h => h) (Or.inl ⟨by rfl, ?_⟩) hHeld ?_ ?_
      rotate_left
      · rintro w' ⟨s0, s1, s2, s3⟩
        go_simp
        with_reducible rfl
      rotate_left
      · simp only [Act.put, List.setIfInBounds_toArray, List.set_cons_zero, List.set_cons_succ, i64_w, i32_w]
        rfl
      refine pure_ (i := 10) (N := some 53) (v := ?_) (a' := ?_) #[true, true, true, true, true, true, true, true, true, true, true, false, false, false, false, false, false, false, false, false, false, false, false, false, false, false, false] rfl rfl (any_of HT_.out (by kernel_rfl)) (fun _ _ _ h => h) (Or.inl ⟨by rfl, ?_⟩) ?_ ?_
      rotate_left
      · intro w'
        go_simp
        with_reducible rfl
      rotate_left
      · simp only [Act.put, List.setIfInBounds_toArray, List.set_cons_zero, List.set_cons_succ, i64_w, i32_w]
        rfl
      refine pure_ (i := 11) (N := some 54) (v := ?_) (a' := ?_) #[true, true, true, true, true, true, true, true, true, true, true, true, false, false, false, false, false, false, false, false, false, false, false, false, false, false, false] rfl rfl (any_of HT_.out (by kernel_rfl)) (fun _ _ _ h => h) (Or.inl ⟨by rfl, ?_⟩) ?_ ?_
      rotate_left
      · intro w'
        go_simp
        with_reducible rfl
      rotate_left
      · simp only [Act.put, List.setIfInBounds_toArray, List.set_cons_zero, List.set_cons_succ, i64_w, i32_w]
        rfl
      refine pure_ (i := 12) (N := some 55) (v := ?_) (a' := ?_) #[true, true, true, true, true, true, true, true, true, true, true, true, true, false, false, false, false, false, false, false, false, false, false, false, false, false, false] rfl rfl (any_of HT_.out (by kernel_rfl)) (fun _ _ _ h => h) (Or.inl ⟨by rfl, ?_⟩) ?_ ?_
      rotate_left
      · intro w'
        go_simp
        with_reducible rfl
      rotate_left
      · simp only [Act.put, List.setIfInBounds_toArray, List.set_cons_zero, List.set_cons_succ, i64_w, i32_w]
        rfl
      refine take_ (i := 13) (N := some 56) (v := ?_) (a' := ?_) #[true, true, true, true, true, true, true, true, true, true, true, true, true, true, false, false, false, false, false, false, false, false, false, false, false, false, false] rfl rfl (take_ofW HT_.out HW_.out (by kernel_rfl)) (fun _ _ _ h => h) (Or.inl ⟨by rfl, ?_⟩) hHeld ?_ ?_
      rotate_left
      · rintro w' ⟨s0, s1, s2, s3⟩
        go_simp
        with_reducible rfl
      rotate_left
      · simp only [Act.put, List.setIfInBounds_toArray, List.set_cons_zero, List.set_cons_succ, i64_w, i32_w]
        rfl
      refine pure_ (i := 14) (N := some 57) (v := ?_) (a' := ?_) #[true, true, true, true, true, true, true, true, true, true, true, true, true, true, true, false, false, false, false, false, false, false, false, false, false, false, false] rfl rfl (any_of HT_.out (by kernel_rfl)) (fun _ _ _ h => h) (Or.inl ⟨by rfl, ?_⟩) ?_ ?_
      rotate_left
      · intro w'
        go_simp
        with_reducible rfl
      rotate_left
      · simp only [Act.put, List.setIfInBounds_toArray, List.set_cons_zero, List.set_cons_succ, i64_w, i32_w]
        rfl
      refine pure_ (i := 15) (N := some 58) (v := ?_) (a' := ?_) #[true, true, true, true, true, true, true, true, true, true, true, true, true, true, true, true, false, false, false, false, false, false, false, false, false, false, false] rfl rfl (any_of HT_.out (by kernel_rfl)) (fun _ _ _ h => h) (Or.inl ⟨by rfl, ?_⟩) ?_ ?_
      rotate_left
      · intro w'
        go_simp
        with_reducible rfl
      rotate_left
      · simp only [Act.put, List.setIfInBounds_toArray, List.set_cons_zero, List.set_cons_succ, i64_w, i32_w]
        rfl
      refine take_ (i := 16) (N := some 59) (v := ?_) (a' := ?_) #[true, true, true, true, true, true, true, true, true, true, true, true, true, true, true, true, true, false, false, false, false, false, false, false, false, false, false] rfl rfl (take_ofW HT_.out HW_.out (by kernel_rfl)) (fun _ _ _ h => h) (Or.inl ⟨by rfl, ?_⟩) hHeld ?_ ?_
      rotate_left
      · rintro w' ⟨s0, s1, s2, s3⟩
        go_simp
        with_reducible rfl
      rotate_left
      · simp only [Act.put, List.setIfInBounds_toArray, List.set_cons_zero, List.set_cons_succ, i64_w, i32_w]
        rfl
      refine pure_ (i := 17) (N := some 60) (v := ?_) (a' := ?_) #[true, true, true, true, true, true, true, true, true, true, true, true, true, true, true, true, true, true, false, false, false, false, false, false, false, false, false] rfl rfl (any_of HT_.out (by kernel_rfl)) (fun _ _ _ h => h) (Or.inl ⟨by rfl, ?_⟩) ?_ ?_
      rotate_left
      · intro w'
        go_simp
        with_reducible rfl
      rotate_left
      · simp only [Act.put, List.setIfInBounds_toArray, List.set_cons_zero, List.set_cons_succ, i64_w, i32_w]
        rfl
      refine pure_ (i := 18) (N := some 61) (v := ?_) (a' := ?_) #[true, true, true, true, true, true, true, true, true, true, true, true, true, true, true, true, true, true, true, false, false, false, false, false, false, false, false] rfl rfl (any_of HT_.out (by kernel_rfl)) (fun _ _ _ h => h) (Or.inl ⟨by rfl, ?_⟩) ?_ ?_
      rotate_left
      · intro w'
        go_simp
        with_reducible rfl
      rotate_left
      · simp only [Act.put, List.setIfInBounds_toArray, List.set_cons_zero, List.set_cons_succ, i64_w, i32_w]
        rfl
      refine pure_ (i := 19) (N := some 62) (v := ?_) (a' := ?_) #[true, true, true, true, true, true, true, true, true, true, true, true, true, true, true, true, true, true, true, true, false, false, false, false, false, false, false] rfl rfl (any_of HT_.out (by kernel_rfl)) (fun _ _ _ h => h) (Or.inl ⟨by rfl, ?_⟩) ?_ ?_
      rotate_left
      · intro w'
        go_simp
        with_reducible rfl
      rotate_left
      · simp only [Act.put, List.setIfInBounds_toArray, List.set_cons_zero, List.set_cons_succ, i64_w, i32_w]
        rfl
      refine take_ (i := 20) (N := some 63) (v := ?_) (a' := ?_) #[true, true, true, true, true, true, true, true, true, true, true, true, true, true, true, true, true, true, true, true, true, false, false, false, false, false, false] rfl rfl (take_ofW HT_.out HW_.out (by kernel_rfl)) (fun _ _ _ h => h) (Or.inl ⟨by rfl, ?_⟩) hHeld ?_ ?_
      rotate_left
      · rintro w' ⟨s0, s1, s2, s3⟩
        go_simp
        with_reducible rfl
      rotate_left
      · simp only [Act.put, List.setIfInBounds_toArray, List.set_cons_zero, List.set_cons_succ, i64_w, i32_w]
        rfl
      refine pure_ (i := 21) (N := some 64) (v := ?_) (a' := ?_) #[true, true, true, true, true, true, true, true, true, true, true, true, true, true, true, true, true, true, true, true, true, true, false, false, false, false, false] rfl rfl (any_of HT_.out (by kernel_rfl)) (fun _ _ _ h => h) (Or.inl ⟨by rfl, ?_⟩) ?_ ?_
      rotate_left
      · intro w'
        go_simp
        with_reducible rfl
      rotate_left
      · simp only [Act.put, List.setIfInBounds_toArray, List.set_cons_zero, List.set_cons_succ, i64_w, i32_w]
        rfl
      refine pure_ (i := 22) (N := some 65) (v := ?_) (a' := ?_) #[true, true, true, true, true, true, true, true, true, true, true, true, true, true, true, true, true, true, true, true, true, true, true, false, false, false, false] rfl rfl (any_of HT_.out (by kernel_rfl)) (fun _ _ _ h => h) (Or.inl ⟨by rfl, ?_⟩) ?_ ?_
      rotate_left
      · intro w'
        go_simp
        with_reducible rfl
      rotate_left
      · simp only [Act.put, List.setIfInBounds_toArray, List.set_cons_zero, List.set_cons_succ, i64_w, i32_w]
        rfl
      refine take_ (i := 23) (N := some 66) (v := ?_) (a' := ?_) #[true, true, true, true, true, true, true, true, true, true, true, true, true, true, true, true, true, true, true, true, true, true, true, true, false, false, false] rfl rfl (take_ofW HT_.out HW_.out (by kernel_rfl)) (fun _ _ _ h => h) (Or.inl ⟨by rfl, ?_⟩) hHeld ?_ ?_
      rotate_left
      · rintro w' ⟨s0, s1, s2, s3⟩
        go_simp
        with_reducible rfl
      rotate_left
      · simp only [Act.put, List.setIfInBounds_toArray, List.set_cons_zero, List.set_cons_succ, i64_w, i32_w]
        rfl
      refine one_ (i := 24) (N := some 67) #[true, true, true, true, true, true, true, true, true, true, true, true, true, true, true, true, true, true, true, true, true, true, true, true, true, false, false] rfl rfl (one_of HT_.out (by kernel_rfl)) (by decide) (fun K hK => ?_)
      refine goesV_ Try.func28 (by kernel_rfl) rfl #[.slice aA an ac, .slice bA bn bc] (by rfl) rfl rfl rfl (by (try simp only [List.map_toArray, List.map_cons, List.map_nil]); first | done | rfl) ?_
      with_reducible refine (HJ.out { g with ps := g.ps.tail, po := po } rfl w4 HP4.out).mono ?_
      rintro e w5 ⟨A1, n1, c1, rfl, hgr⟩
      have HG := Aside0.mk hgr
      clear hgr
      refine ⟨_, rfl, ?_⟩
      refine hK.out _ _ (HS7.out { g with ps := g.ps.tail, po := po } rfl rfl w4 w5 HP4.out HG.out.2.2.1).1 (fun hHeld => ?_)
      clear hK K
      refine norm_ (a' := ?_) ?_ ?_
      rotate_left
      · show Act.put _ (some 67) _ = _
        simp only [Act.put, List.setIfInBounds_toArray, List.set_cons_zero, List.set_cons_succ, i64_w, i32_w]
        rfl
      refine pure_ (i := 25) (N := some 68) (v := ?_) (a' := ?_) #[true, true, true, true, true, true, true, true, true, true, true, true, true, true, true, true, true, true, true, true, true, true, true, true, true, true, false] rfl rfl (any_of HT_.out (by kernel_rfl)) (fun _ _ _ h => h) (Or.inl ⟨by rfl, ?_⟩) ?_ ?_
      rotate_left
      · intro w'
        go_simp
        with_reducible rfl
      rotate_left
      · simp only [Act.put, List.setIfInBounds_toArray, List.set_cons_zero, List.set_cons_succ, i64_w, i32_w]
        rfl
      have hfz := (HS7.out { g with ps := g.ps.tail, po := po } rfl rfl w4 w5 HP4.out HG.out.2.2.1).2
      refine last_ (i := 26) (N := none) #[true, true, true, true, true, true, true, true, true, true, true, true, true, true, true, true, true, true, true, true, true, true, true, true, true, true, true] rfl rfl (one_of HT_.out (by kernel_rfl)) (by decide) (fun K hK => ?_)
      refine skip_ (w1 := ?_) (by rfl) rfl ?_ ?_
      rotate_left
      · go_simp
        rfl
      refine hK.out _ _ ?_
      clear hK K
      refine done_ (done_of HT_.out (by kernel_rfl)) ?_
      clear HT_ HW_ hHeld

      have hv6 := HP4.out.view_grew xa (t := (aA, an, ac)) (xs := ya) HV.out.1 HGV.out (t1 := (A1, n1, c1)) (xs1 := ya ++ yb) HG.out
      replace hv6 : PS w0 (w5.setCell ⟨gv, xa, none⟩ (.slice A1 n1 c1)) gp gt f t0 { g with ps := g.ps.tail, po := po, vs := g.vs.set xa ((A1, n1, c1), ya ++ yb) } := hv6
      have HP6 := Aside0.mk hv6
      clear hv6 hfz HP4 HG
      generalize w5.setCell ⟨gv, xa, none⟩ (.slice A1 n1 c1) = w6 at HP6 ⊢
      obtain ⟨hm1, hm2⟩ := HC8.out { g with ps := g.ps.tail, po := po, vs := g.vs.set xa ((A1, n1, c1), ya ++ yb) } rfl w6 HP6.out
      go_upto_region 9 with (first | ((with_reducible refine gate_builtin (b := .append) (xs := #[.tmp 73, .tmp 78]) rfl ?_); at_builtin; refine Kd.R_append k3 (w0 := w0) w0.heap.size rfl (.tmp 73) (.tmp 78) 36 44 (.agg #[.int .i64 0, .int .i64 0, .int .i64 0]) 24 rfl Try.underlying36 info44 rfl (by decide) (by omega) (.slice mA mn mc) g.ms ((t : Int), (xa : Int), (xb : Int)) [.int .i64 (t : Int), .int .i64 (xa : Int), .int .i64 (xb : Int)] (fun _ => True) (fun _ => False) rfl rfl ?aP (fun _ hk => hk.elim) ?aF ?aO ?aB ?aS ?aL ?_; (case aP => exact ⟨[_], [_, _], rfl, rfl, [_], [_], rfl, rfl, rfl⟩); (case aB => exact HP6.out.hb); (case aF => exact fun _ _ => trivial); (case aO => exact HR8.out { g with ps := g.ps.tail, po := po, vs := g.vs.set xa ((A1, n1, c1), ya ++ yb) } rfl w6 HP6.out); (case aS => exact below_size HP6.out.hb); (case aL => have := HML2.out; omega); intro v8 w9 ho hb hg hat; obtain ⟨A8, c8, rfl, _, _⟩ := Kd.R_reads ho; obtain ⟨hz1, hz2⟩ := HS8.out { g with ps := g.ps.tail, po := po, vs := g.vs.set xa ((A1, n1, c1), ya ++ yb) } rfl w6 w9 HP6.out hg; have HG8 := Aside0.mk (And.intro ho (And.intro hb hg)); clear ho hb hg hat))
      have hv7 := HP6.out.told hf (t1 := (A8, (g.ms ++ [((t : Int), (xa : Int), (xb : Int))]).length, c8)) HG8.out.1 HG8.out.2.1 (by rw [HMo.out]; exact HG8.out.2.2)
      rw [show (g.ms ++ [((t : Int), (xa : Int), (xb : Int))]).length = g.ms.length + 1 from by simp] at hv7
      replace hv7 : PS w0 (w9.setCell ⟨gp, 8, none⟩ (.slice A8 (g.ms.length + 1) c8)) gp gt f t0 { g with ps := g.ps.tail, po := po, vs := g.vs.set xa ((A1, n1, c1), ya ++ yb), ms := g.ms ++ [((t : Int), (xa : Int), (xb : Int))], mo := (A8, g.ms.length + 1, c8) } := hv7
      have HP7 := Aside0.mk hv7
      clear hv7 hm1 hm2 hz1 hz2 HG8 HP6
      generalize w9.setCell ⟨gp, 8, none⟩ (.slice A8 (g.ms.length + 1) c8) = w7 at HP7 ⊢
      obtain ⟨wj1, wj2, lj3, tj1⟩ := HWJ.out
      refine start_ (n := 10) (S := (fun w' => True)) (ds := [9]) #[false, false, false, false, false, false, false, false, false, false] (by kernel_rfl) rfl rfl trivial (fun hHeld => ?_); refine with_tabW M37c_tab M37c_bits (fun HT_ HW_ => ?_)
      have HP8 := Aside0.mk (HP7.out.below (w1 := w7.drew) (Drawn0.below ⟨⟨1, rfl⟩⟩))
      clear HP7
      generalize w7.drew = w8 at HP8 hHeld ⊢
      refine pure_ (i := 0) (N := some 82) (v := ?_) (a' := ?_) #[true, false, false, false, false, false, false, false, false, false] rfl rfl (any_of HT_.out (by kernel_rfl)) (fun _ _ _ h => h) (Or.inl ⟨by rfl, ?_⟩) ?_ ?_
      rotate_left
      · intro w'
        go_simp
        with_reducible rfl
      rotate_left
      · simp only [Act.put, List.setIfInBounds_toArray, List.set_cons_zero, List.set_cons_succ, i64_w, i32_w]
        rfl
      refine pure_ (i := 1) (N := some 83) (v := ?_) (a' := ?_) #[true, true, false, false, false, false, false, false, false, false] rfl rfl (any_of HT_.out (by kernel_rfl)) (fun _ _ _ h => h) (Or.inl ⟨by rfl, ?_⟩) ?_ ?_
      rotate_left
      · intro w'
        go_simp
        with_reducible rfl
      rotate_left
      · simp only [Act.put, List.setIfInBounds_toArray, List.set_cons_zero, List.set_cons_succ, i64_w, i32_w]
        rfl
      refine pure_ (i := 2) (N := some 84) (v := ?_) (a' := ?_) #[true, true, true, false, false, false, false, false, false, false] rfl rfl (any_of HT_.out (by kernel_rfl)) (fun _ _ _ h => h) (Or.inl ⟨by rfl, ?_⟩) ?_ ?_
      rotate_left
      · intro w'
        go_simp
        with_reducible rfl
      rotate_left
      · simp only [Act.put, List.setIfInBounds_toArray, List.set_cons_zero, List.set_cons_succ, i64_w, i32_w]
        rfl
      refine pure_ (i := 3) (N := some 85) (v := ?_) (a' := ?_) #[true, true, true, true, false, false, false, false, false, false] rfl rfl (any_of HT_.out (by kernel_rfl)) (fun _ _ _ h => h) (Or.inl ⟨by rfl, ?_⟩) ?_ ?_
      rotate_left
      · intro w'
        go_simp
        with_reducible rfl
      rotate_left
      · simp only [Act.put, List.setIfInBounds_toArray, List.set_cons_zero, List.set_cons_succ, i64_w, i32_w]
        rfl
      refine pure_ (i := 4) (N := some 86) (v := ?_) (a' := ?_) #[true, true, true, true, true, false, false, false, false, false] rfl rfl (any_of HT_.out (by kernel_rfl)) (fun _ _ _ h => h) (Or.inl ⟨by rfl, ?_⟩) ?_ ?_
      rotate_left
      · intro w'
        go_simp
        with_reducible rfl
      rotate_left
      · simp only [Act.put, List.setIfInBounds_toArray, List.set_cons_zero, List.set_cons_succ, i64_w, i32_w]
        rfl
      refine pure_ (i := 5) (N := some 87) (v := ?_) (a' := ?_) #[true, true, true, true, true, true, false, false, false, false] rfl rfl (any_of HT_.out (by kernel_rfl)) (fun _ _ _ h => h) (Or.inl ⟨by rfl, ?_⟩) ?_ ?_
      rotate_left
      · intro w'
        go_simp
        with_reducible rfl
      rotate_left
      · simp only [Act.put, List.setIfInBounds_toArray, List.set_cons_zero, List.set_cons_succ, i64_w, i32_w]
        rfl
      refine pure_ (i := 6) (N := some 88) (v := ?_) (a' := ?_) #[true, true, true, true, true, true, true, false, false, false] rfl rfl (any_of HT_.out (by kernel_rfl)) (fun _ _ _ h => h) (Or.inl ⟨by rfl, ?_⟩) ?_ ?_
      rotate_left
      · intro w'
        go_simp
        with_reducible rfl
      rotate_left
      · simp only [Act.put, List.setIfInBounds_toArray, List.set_cons_zero, List.set_cons_succ, i64_w, i32_w]
        rfl
      refine pure_ (i := 7) (N := some 89) (v := ?_) (a' := ?_) #[true, true, true, true, true, true, true, true, false, false] rfl rfl (any_of HT_.out (by kernel_rfl)) (fun _ _ _ h => h) (Or.inl ⟨by rfl, ?_⟩) ?_ ?_
      rotate_left
      · intro w'
        go_simp
        with_reducible rfl
      rotate_left
      · simp only [Act.put, List.setIfInBounds_toArray, List.set_cons_zero, List.set_cons_succ, i64_w, i32_w]
        rfl
      refine one_ (i := 8) (N := some 90) #[true, true, true, true, true, true, true, true, true, false] rfl rfl (one_of HT_.out (by kernel_rfl)) (by decide) (fun K hK => ?_)
      refine Kd.R_delete_step (Kd.int .i64) (w0 := w0) w0.heap.size (by rfl) (.tmp 85) (.tmp 89) 24 3 rfl Try.underlying24 info3s (g := gi) (n := n) (c := c) (k := j + 1) (m := n - (j + 1 + 1)) (c2 := c - (j + 1 + 1)) (A := Q) (xs := ints s.cur) (ok := fun _ => True) rfl rfl HQ.out (by omega) ?aO ?aK ?aB ?aS ?_
      (case aO => exact HR9.out { g with ps := g.ps.tail, po := po, vs := g.vs.set xa ((A1, n1, c1), ya ++ yb), ms := g.ms ++ [((t : Int), (xa : Int), (xb : Int))], mo := (A8, g.ms.length + 1, c8) } rfl rfl w8 HP8.out)
      (case aK => omega)
      (case aB => exact HP8.out.hb)
      (case aS => exact below_size HP8.out.hb)
      intro w9 ho hb hg
      have HG9 := Aside0.mk (And.intro ho (And.intro hb hg))
      clear ho hb hg
      refine hK.out _ _ trivial (fun hHeld => ?_)
      clear hK K
      refine norm_ (a' := ?_) ?_ ?_
      rotate_left
      · show Act.put _ (some 90) _ = _
        simp only [Act.put, List.setIfInBounds_toArray, List.set_cons_zero, List.set_cons_succ, i64_w, i32_w]
        rfl
      refine pure_ (i := 9) (N := some 5) (v := ?_) (a' := ?_) #[true, true, true, true, true, true, true, true, true, true] rfl rfl (any_of HT_.out (by kernel_rfl)) (fun _ _ _ h => h) (Or.inl ⟨by rfl, ?_⟩) ?_ ?_
      rotate_left
      · intro w'
        go_simp
        with_reducible rfl
      rotate_left
      · simp only [Act.put, List.setIfInBounds_toArray, List.set_cons_zero, List.set_cons_succ, i64_w, i32_w]
        rfl
      refine done_ (done_of HT_.out (by kernel_rfl)) ?_
      clear HT_ HW_ hHeld

      clear wj1 wj2 lj3 tj1
      have hrs3 := HMl.out.hrs
      have F := HP8.out.row_cut (rs := rs) (c := ((some ⟨gi, 0, none⟩, n, c), ints s.cur)) hrs3 (t1 := (some ⟨gi, 0, none⟩, n - 1, c)) (xs1 := (ints s.cur).eraseIdx (j + 1)) HG9.out.1 HG9.out.2.1 HG9.out.2.2 (.inl rfl)
      have F2 := HMl.out.step HSN.out hn HJJ.out HXX.out.1 HXX.out.2 HY.out.1 HY.out.2 hjl (po := po) (t1 := (A1, n1, c1)) (mo := (A8, g.ms.length + 1, c8)) (tr1 := (some ⟨gi, 0, none⟩, n - 1, c)) F
      have HF := Aside0.mk (And.intro (show (mstep t s).cur.length = n - 1 by rw [mstep_len t s (by have := HSN.out; omega), HSN.out]) F2)
      clear F F2 hrs3 HP8 HG9
      go_wp2
      go_roundw
      case measure => simp [intOf]; omega
      case rel => exact ⟨some ⟨gi, 0, none⟩, n - 1, c, rfl, by rw [show ((n - 1 : Nat) : Int) = (n : Int) - 1 from by omega], by omega, ⟨⟨mstep t s, _, HF.out.1, HF.out.2⟩⟩⟩
    · have hd1 : decide (1 < n) = false := decide_eq_false hn
      have hd2 : decide ((1 : Int) < (n : Int)) = false := decide_eq_false (by omega)
      have hle : (n : Int) ≤ 1 := by omega
      obtain ⟨s, g, hsn, hml⟩ := HS.out
      obtain ⟨hx5, hxr, hfz⟩ := HOut.out _ s g _ _ hml
      replace hxr : wr.cell? ⟨gr, k, none⟩ = some (.slice trA trn trc) := hxr
      have HM1 := Aside0.mk hml
      have HS1 := Aside0.mk hsn
      clear hml hsn HS hn
      go_wp2
      go_end0
      refine ⟨rfl, HP.out _ s { g with oh := oh ++ [(A, n, c)] } (A, n, c) ?_ (by have := HS1.out; omega)⟩
      have h := HM1.out
      have h2 := h.ps.row_put h.hoh h.hro (A, n, c)
      rw [HK.out] at h2
      exact ⟨h2, ⟨h.rep.vs, h.rep.ks, h.rep.rs, h.rep.sp, h.rep.ps, h.rep.ms⟩, h.hrs, h.hro, rfl, h.mi, h.go, h.hV, h.hM⟩

/-- The play's merge, at a play. -/
theorem merge_calls {w0 w : World} {gp gt : Nat} {f t0 : List Value} {g : Gh} {s : St (List Int)} (h : PS w0 w gp gt f t0 g) (hrep : Rep s g) (hf : f.length = 4) (hjoin : f[2]? = some (.func (.func 28) #[] #[])) (t : Nat) {pre : List Nat} {L : List Int} (hmi : MI pre s.cur s.views L)
    (hL : L.length ≤ 2097152) (hV : s.views.length ≤ 4194304) (hM : s.merges.length + s.cur.length ≤ 2097152) (hR : s.up.length ≤ 4194304) (hc : s.cur ≠ []) :
    Calls Try.prog 37 #[.pointer (some ⟨gp, 0, none⟩), .int .i64 (t : Int)] w fun e w' => e = .returned (.tuple #[]) ∧ ∃ g', PS w0 w' gp gt f t0 g' ∧ Rep (s.merge red t) g' := by
  obtain ⟨rs, ⟨tr, xs⟩, hr, hx, hr2, hl⟩ := hrep.last
  replace hx : xs = ints s.cur := hx
  subst hx
  have hoh := hrep.oh
  rw [hr, List.map_append] at hoh
  obtain ⟨gr, cr, hro⟩ : ∃ gr cr, g.ro = (some ⟨gr, 0, none⟩, rs.length + 1, cr) := by
    obtain ⟨g2, c2, e1, _, _⟩ := fam_at (h1 := slv_one) h.f24 0 rfl (none, 0, 0) rs.length (by rw [hoh]; simp)
    have e2 := slv_form e1
    rw [hoh, List.length_append, List.length_map] at e2
    exact ⟨g2, c2, e2⟩
  have hmem : (slv tr, ints s.cur) ∈ g.rs.map hv ++ [hv g.sp] := by rw [hr]; simp [hv]
  have hn : s.cur.length = tr.2.1 := by
    have := (Kd.R_reads' (Fam.R (h1 := fun _ => rfl) h.f3 hmem)).1
    rw [this, ints_length]
  refine (merge_walk t pre L s g rs gr rs.length cr (rs.map (·.1)) tr tr s.views.length (s.merges.length + s.cur.length) hf hjoin ⟨h, hrep.toRep0, hr, hro, hoh, hmi, rfl, Nat.le_refl _, Nat.le_refl _⟩ rfl (by rw [List.length_map]) (by omega) hL hV hM hn (fun w' => ∃ g', PS w0 w' gp gt f t0 g' ∧ Rep (s.merge red t) g') ?_)
  intro w' s' g' tr' hml hle
  have e1 : s' = s.merge red t := by rw [← hml.go]; exact (merge_done t s' hle).symm
  subst e1
  refine ⟨g', hml.ps, ⟨hml.rep, ?_⟩⟩
  rw [hml.hoh, hml.hrs, List.map_append]
  rfl
end Go.Proofs.Ytamfkglnejhjdaa.PlayState
