/- hyper.play[int64]: its rows begin, its spawns; each step told as the play's. -/
import Derived.Test.YtamfkglnejhjdaaDoorPlayMerge
namespace Go.Proofs.YtamfkglnejhjdaaDoor.PlayState
open Go.RowKit Go.Proofs.YtamfkglnejhjdaaDoorW.PrintWords Go.Proofs.YtamfkglnejhjdaaDoor.Fam
theorem fam_nil_mid {α : Type} {enc : α → Value} {e : Nat} {h1 : ∀ x : α, (enc x).oneCell' = true} {w : World} {base : Nat} {L1 L2 : List (Value × List α)} (h : Fam enc e w base (L1 ++ L2)) : Fam enc e w base (L1 ++ (.slice none 0 0, []) :: L2) := by
  have hn : w.ownsRow base e 1 (.slice none 0 0) ([] : List α).length (encs enc ([] : List α)) := Kd.own_of_R (enc := enc) (h1 := h1) (Kd.R_nil _ e w base (fun _ => True))
  obtain ⟨a1, a2, a3⟩ := List.pairwise_append.1 h.apart
  refine ⟨fun p hp => ?_, ?_⟩
  · rcases List.mem_append.1 hp with hp | hp
    · exact h.own p (List.mem_append_left _ hp)
    · rcases List.mem_cons.1 hp with rfl | hp
      · exact hn
      · exact h.own p (List.mem_append_right _ hp)
  · rw [List.pairwise_append, List.pairwise_cons]
    refine ⟨a1, ⟨fun q hq => .inl rfl, a2⟩, fun p hp q hq => ?_⟩
    rcases List.mem_cons.1 hq with rfl | hq
    · exact Ap.symm (.inl rfl)
    · exact a3 p hp q hq
end Go.Proofs.YtamfkglnejhjdaaDoor.PlayState
namespace Go.Proofs.YtamfkglnejhjdaaDoor.PlayState
open Go.RowKit Go.Proofs.YtamfkglnejhjdaaDoorW.PrintWords Go.Proofs.YtamfkglnejhjdaaDoorW.PrintLast Go.Proofs.YtamfkglnejhjdaaDoorW.PrintMore Go.Proofs.YtamfkglnejhjdaaDoor.Fam Go.Proofs.YtamfkglnejhjdaaDoor.Play
set_option linter.unusedVariables false
theorem fam_perm {α : Type} {enc : α → Value} {e : Nat} {w : World} {base : Nat} {L L2 : List (Value × List α)} (h : Fam enc e w base L) (hp : L.Perm L2) : Fam enc e w base L2 :=
  ⟨fun p hm => h.own p (hp.symm.subset hm), hp.pairwise h.apart (fun h => Ap.symm h)⟩
theorem fam_take_at {α : Type} {enc : α → Value} {e : Nat} {w : World} {base : Nat} {L : List (Value × List α)} {A : Option Addr} {n c : Nat} {xs : List α} (h : Fam enc e w base L) (i : Nat) (hi : L[i]? = some (.slice A n c, xs)) (m : Nat) (hm : m ≤ n) (hn : n = xs.length) : Fam enc e w base (L.set i (.slice A m c, xs.take m)) := by
  refine h.put hi ?_ (fun _ _ _ => rfl) (.inl (by cases A <;> rfl))
  have h1 := h.own _ (List.mem_iff_getElem?.2 ⟨i, hi⟩)
  simp only at h1
  rw [← hn] at h1
  have h2 := own_take h1 hm
  have e1 : (encs enc xs).take (m * 1) = encs enc (xs.take m) := by simp [encs, List.map_take]
  rw [e1] at h2
  rw [List.length_take, Nat.min_eq_left (by omega)]
  exact h2
section
variable {w0 w w1 : World} {gp : Nat} {f : List Value} {g : Gh}
theorem PS.sp_at (g : Gh) : (g.rs.map hv ++ [hv g.sp])[g.rs.length]? = some (slv g.sp.1, g.sp.2) := by
  rw [List.getElem?_append_right (by simp)]
  simp [hv]
theorem sp_set (g : Gh) (x : Value × List Int) : (g.rs.map hv ++ [hv g.sp]).set g.rs.length x = g.rs.map hv ++ [x] := by
  rw [List.set_append_right _ _ (by simp)]
  simp
/-- The spawns have grown, their header is written. -/
theorem PS.sp_grew (h : PS w0 w gp f g) (hf : f.length = 4) {ok : Nat → Prop} {t1 : Sl} {xs1 : List Int}
    (ho : Kd.R (Kd.int .i64) 3 w1 w0.heap.size ok (slv t1) xs1) (hb : Below w0.heap.size w0 w1) (hg : w.grownBy w1 (slv g.sp.1).ownBlock) (hat : (slv t1).ownBlock = (slv g.sp.1).ownBlock ∨ ∃ b, (slv t1).ownBlock = some b ∧ w.heap.size ≤ b) :
    PS w0 (w1.setCell ⟨gp, 6, none⟩ (slv t1)) gp f { g with sp := (t1, xs1) } := by
  have hmem : (slv g.sp.1, g.sp.2) ∈ g.rs.map hv ++ [hv g.sp] := List.mem_iff_getElem?.2 ⟨_, PS.sp_at g⟩
  have ty : ∀ {e : Nat}, e ≠ 3 → ∀ b, (slv g.sp.1).ownBlock = some b → ∃ cells t, w.heap[b]? = some (.cells cells t (0, 0)) ∧ e ≠ t := fun he b hb => by
    obtain ⟨cells, t, h1, rfl⟩ := h.typed3 hmem b hb
    exact ⟨cells, _, h1, he⟩
  have bp := (h.stays3 hmem hg h.bp (by decide)).trans h.bp
  have f2 := fam_grown h.f2 hg (ty (by decide))
  have f24 := fam_grown h.f24 hg (ty (by decide))
  have mg := mg_grown h.mg k3_E hg (ty (by decide))
  have f3 := fam_grew (h1 := fun _ => rfl) h.f3 g.rs.length (PS.sp_at g) ho hg hat
  rw [sp_set] at f3
  have keep : ∀ b, b < w1.heap.size → b ≠ gp → (w1.setCell ⟨gp, 6, none⟩ (slv t1)).heap[b]? = w1.heap[b]? := fun b hb hn =>
    ((Kept.refl w1 (fun k => k = gp)).setCell (p := ⟨gp, 6, none⟩) (.inl rfl) (slv t1)).2 b hb hn
  refine ⟨hb.setCell (p := ⟨gp, 6, none⟩) h.gep _, ?_, h.gep, f2.far bp (by decide) keep, f3.far bp (by decide) keep, f24.far bp (by decide) keep, ?_, h.pk⟩
  · obtain ⟨a, b, c', d, rfl⟩ : ∃ a b c' d, f = [a, b, c', d] := by
      match f, hf with
      | [a, b, c', d], _ => exact ⟨a, b, c', d, rfl⟩
    exact blk_put bp 6 _ rfl
  · exact mg_grown mg k3_E (row := some gp) ⟨rfl, rfl, rfl, by simp, fun b hb hn => keep b hb (fun e => hn (by rw [e]))⟩ (fun b hb => by injection hb with hb; subst hb; exact ⟨_, _, bp, by decide⟩)
/-- The spawns are cut. -/
theorem PS.sp_cut (h : PS w0 w gp f g) (hf : f.length = 4) {A : Option Addr} {n c : Nat} {xs : List Int} (hs : g.sp = ((A, n, c), xs)) (m : Nat) (hm : m ≤ n) :
    PS w0 (w.setCell ⟨gp, 6, none⟩ (.slice A m c)) gp f { g with sp := ((A, m, c), xs.take m) } := by
  have hq : (g.rs.map hv ++ [hv g.sp])[g.rs.length]? = some (.slice A n c, xs) := by rw [PS.sp_at g, hs]; rfl
  have hm2 : (Value.slice A n c, xs) ∈ g.rs.map hv ++ [hv g.sp] := List.mem_iff_getElem?.2 ⟨_, hq⟩
  have hn : n = xs.length := (Kd.R_reads' (Fam.R (h1 := fun _ => rfl) h.f3 hm2)).1
  have f3 := fam_take_at h.f3 _ hq m hm hn
  rw [sp_set] at f3
  refine h.cellw 6 _ (g2 := { g with sp := ((A, m, c), xs.take m) }) ?_ h.f2 f3 h.f24 h.mg h.pk
  obtain ⟨a, b, c', d, rfl⟩ : ∃ a b c' d, f = [a, b, c', d] := by
    match f, hf with
    | [a, b, c', d], _ => exact ⟨a, b, c', d, rfl⟩
  rfl
/-- A row that is new beside the others. -/
theorem PS.row_lit (h : PS w0 w gp f g) (y : Int) : PS w0 (w.alloc (.cells #[.int .i64 y] 3)) gp f g ∧ Fam (Value.int .i64) 3 (w.alloc (.cells #[.int .i64 y] 3)) w0.heap.size ((g.rs.map hv ++ [hv g.sp]) ++ [(.slice (some ⟨w.heap.size, 0, none⟩) 1 1, [y])]) := by
  have hb := below_alloc (Below.refl w.heap.size w) (.cells #[.int .i64 y] 3)
  refine ⟨h.below hb, h.f3.add ?_ (fun b hlt => hb.block b hlt) (fun b hb => ?_)⟩
  · exact own_lit w w0.heap.size 3 .i64 [y] (below_size h.hb) (by simp)
  · have : w.heap.size = b := by simpa [Value.ownBlock] using hb
    omega
/-- The rows' outer row has grown by that row's header, its own header is written. -/
theorem PS.row_new (h : PS w0 w gp f g) (hf : f.length = 4) {t1 : Sl} {xs1 : List Int} (hf3 : Fam (Value.int .i64) 3 w w0.heap.size ((g.rs.map hv ++ [hv g.sp]) ++ [(slv t1, xs1)])) {ok : Nat → Prop} {t2 : Sl}
    (ho : Kd.R kSl 24 w1 w0.heap.size ok (slv t2) (g.oh ++ [t1])) (hb : Below w0.heap.size w0 w1) (hg : w.grownBy w1 (slv g.ro).ownBlock) (hat : (slv t2).ownBlock = (slv g.ro).ownBlock ∨ ∃ b, (slv t2).ownBlock = some b ∧ w.heap.size ≤ b) :
    PS w0 (w1.setCell ⟨gp, 5, none⟩ (slv t2)) gp f { g with rs := g.rs ++ [(t1, xs1)], oh := g.oh ++ [t1], ro := t2 } := by
  have ty : ∀ {e : Nat}, e ≠ 24 → ∀ b, (slv g.ro).ownBlock = some b → ∃ cells t, w.heap[b]? = some (.cells cells t (0, 0)) ∧ e ≠ t := fun he b hb => by
    obtain ⟨cells, hc⟩ := own_typed (h.f24.own _ (List.mem_singleton.2 rfl)) b hb
    exact ⟨cells, _, hc, he⟩
  have blk : ∀ {b t : Nat} {cs : Array Value}, w.heap[b]? = some (.cells cs t (0, 0)) → t ≠ 24 → w1.heap[b]? = some (.cells cs t (0, 0)) := fun {b t cs} h1 ht => by
    refine (hg.block b (blk_lt h1) (fun e => ?_)).trans h1
    obtain ⟨cells, t', h2, h3⟩ := ty ht b e.symm
    rw [h1] at h2
    injection h2 with h2
    injection h2 with _ h2
    exact h3 h2
  have bp := blk h.bp (by decide)
  have f2 := fam_grown h.f2 hg (ty (by decide))
  have f3 := fam_grown hf3 hg (ty (by decide))
  have mg := mg_grown h.mg k3_E hg (ty (by decide))
  have f24 := fam_grew (h1 := slv_one) h.f24 0 rfl ho hg hat
  simp only [List.set_cons_zero] at f24
  have keep : ∀ b, b < w1.heap.size → b ≠ gp → (w1.setCell ⟨gp, 5, none⟩ (slv t2)).heap[b]? = w1.heap[b]? := fun b hb hn =>
    ((Kept.refl w1 (fun k => k = gp)).setCell (p := ⟨gp, 5, none⟩) (.inl rfl) (slv t2)).2 b hb hn
  refine ⟨hb.setCell (p := ⟨gp, 5, none⟩) h.gep _, ?_, h.gep, f2.far bp (by decide) keep, ?_, f24.far bp (by decide) keep, ?_, h.pk⟩
  · obtain ⟨a, b, c', d, rfl⟩ : ∃ a b c' d, f = [a, b, c', d] := by
      match f, hf with
      | [a, b, c', d], _ => exact ⟨a, b, c', d, rfl⟩
    exact blk_put bp 5 _ rfl
  · have h3 := f3.far bp (by decide) keep
    refine fam_perm h3 ?_
    show List.Perm _ ((g.rs ++ [(t1, xs1)]).map hv ++ [hv g.sp])
    rw [List.map_append, List.append_assoc, List.append_assoc]
    exact List.Perm.append_left _ List.perm_append_comm
  · exact mg_grown mg k3_E (row := some gp) ⟨rfl, rfl, rfl, by simp, fun b hb hn => keep b hb (fun e => hn (by rw [e]))⟩ (fun b hb => by injection hb with hb; subst hb; exact ⟨_, _, bp, by decide⟩)
/-- The rows begin: one, and it is empty. -/
theorem PS.rows_begin (h : PS w0 w gp f g) (hf : f.length = 4) (hrs : g.rs = []) :
    PS w0 ((w.alloc (.cells #[.slice none 0 0] 24)).setCell ⟨gp, 5, none⟩ (.slice (some ⟨w.heap.size, 0, none⟩) 1 1)) gp f { g with rs := [((none, 0, 0), [])], oh := [(none, 0, 0)], ro := (some ⟨w.heap.size, 0, none⟩, 1, 1) } := by
  have hb := below_alloc (Below.refl w.heap.size w) (.cells #[.slice none 0 0] 24)
  have h2 := h.below hb
  have f24 : Fam slv 24 (w.alloc (.cells #[.slice none 0 0] 24)) w0.heap.size [(.slice (some ⟨w.heap.size, 0, none⟩) 1 1, [((none, 0, 0) : Sl)])] := by
    refine ⟨fun p hp => ?_, by simp⟩
    rw [List.mem_singleton] at hp
    subst hp
    have h3 := World.ownsRow_lit (base := w0.heap.size) (e := 24) (size := 1) w #[.slice none 0 0] 1 (below_size h.hb) (by simp [maxLen]) (by simp)
    simpa [encs, slv] using h3
  refine h2.cellw 5 _ (g2 := { g with rs := [((none, 0, 0), [])], oh := [(none, 0, 0)], ro := (some ⟨w.heap.size, 0, none⟩, 1, 1) }) ?_ h2.f2 ?_ f24 h2.mg h2.pk
  · obtain ⟨a, b, c', d, rfl⟩ : ∃ a b c' d, f = [a, b, c', d] := by
      match f, hf with
      | [a, b, c', d], _ => exact ⟨a, b, c', d, rfl⟩
    rfl
  · have h3 := h2.f3
    rw [hrs] at h3
    exact fam_nil_mid (h1 := fun _ => rfl) (L1 := []) h3
end
end Go.Proofs.YtamfkglnejhjdaaDoor.PlayState

namespace Go.Proofs.YtamfkglnejhjdaaDoor.PlayState
open Go.RowKit Go.Proofs.YtamfkglnejhjdaaDoorW.PrintWords Go.Proofs.YtamfkglnejhjdaaDoorW.PrintLast Go.Proofs.YtamfkglnejhjdaaDoorW.PrintMore Go.Proofs.YtamfkglnejhjdaaDoor.Fam Go.Proofs.YtamfkglnejhjdaaDoor.Play
set_option linter.unusedVariables false
/-- The play's four functions. -/
def fF (gU gO : Nat) : List Value := [.func (.func 22) #[] #[.pointer (some ⟨gU, 0, none⟩)], .func (.func 20) #[] #[.pointer (some ⟨gO, 0, none⟩)], .func (.func 20) #[] #[.pointer (some ⟨gO, 0, none⟩)], .func (.func 23) #[] #[]]
theorem fF_len (gU gO : Nat) : (fF gU gO).length = 4 := rfl
/-- What the closures answer. -/
structure FnOk (w0 : World) (gU gO : Nat) (F : List Int → Int) (X : Int → Prop) : Prop where
  unit : gU < w0.heap.size ∧ w0.cell? ⟨gU, 0, none⟩ = some (.int .i64 (F []))
  join : ∀ w' a b, Below w0.heap.size w0 w' → (∀ y, y ∈ a → X y) → (∀ y, y ∈ b → X y) → Calls Tryd.prog 20 #[.int .i64 (F a), .int .i64 (F b), .pointer (some ⟨gO, 0, none⟩)] w' fun e w'' => e = .returned (.int .i64 (F (a ++ b))) ∧ Below w'.heap.size w' w''
  put : ∀ w' a x, Below w0.heap.size w0 w' → (∀ y, y ∈ a → X y) → X x → Calls Tryd.prog 20 #[.int .i64 (F a), .int .i64 x, .pointer (some ⟨gO, 0, none⟩)] w' fun e w'' => e = .returned (.int .i64 (F (a ++ [x]))) ∧ Below w'.heap.size w' w''
/-- The play object at gp stands for the play s. -/
def AT (F : List Int → Int) (w0 w : World) (gp gU gO : Nat) (s : St (List Int)) : Prop := ∃ g, PS w0 w gp (fF gU gO) g ∧ Rep F s g
section
variable {F : List Int → Int} {X : Int → Prop} {w0 w w1 : World} {gp gU gO : Nat} {s : St (List Int)} {L : List Int} {n : Nat}
theorem AT.below (h : AT F w0 w gp gU gO s) (hb : Below w.heap.size w w1) : AT F w0 w1 gp gU gO s := by
  obtain ⟨g, h1, h2⟩ := h
  exact ⟨g, h1.below hb, h2⟩
theorem hand_at (h : AT F w0 w gp gU gO s) (hB : Bd n s L) (hn : n ≤ 100000) :
    Calls Tryd.prog 42 #[.pointer (some ⟨gp, 0, none⟩)] w fun e w' => e = .returned (.int .i64 (s.hand : Int)) ∧ Drawn0 w w' := by
  obtain ⟨g, hp, hr⟩ := h
  obtain ⟨rs, c, h1, h2, h3, h4⟩ := hr.last
  obtain ⟨hne, hl, _⟩ := hB.cur
  have hpos : 0 < s.cur.length := List.length_pos_iff.2 hne
  have hcl : c.2.length = s.cur.length := by rw [h2, ints_length]
  have e : c.2.getD (c.2.length - 1) 0 = (s.hand : Int) := by
    rw [hcl, h2, ints_getD]
    congr 1
    unfold St.hand
    rw [List.getLastD_eq_getLast?, List.getLast?_eq_getElem?, List.getD_eq_getElem?_getD]
  have := hand_calls hp (fF_len gU gO) hr.oh h1 (by omega) (by omega) (by have := hr.rows_len; have := hB.up; omega)
  rw [e] at this
  exact this
theorem made_at (h : AT F w0 w gp gU gO s) (hF : FnOk w0 gU gO F X) (hn1 : s.up.length ≤ 100000) (hn2 : s.views.length ≤ 100000) (hn3 : s.cur.length ≤ 100000) :
    Calls Tryd.prog 41 #[.pointer (some ⟨gp, 0, none⟩)] w fun e w' => e = .returned (.tuple #[]) ∧ AT F w0 w' gp gU gO (s.made red) := by
  obtain ⟨g, hp, hr⟩ := h
  obtain ⟨rs, c, h1, h2, h3, h4⟩ := hr.last
  have hvl := hr.views_len
  refine (made_calls hp hF.unit (f1 := .func (.func 20) #[] #[.pointer (some ⟨gO, 0, none⟩)]) (f2 := .func (.func 20) #[] #[.pointer (some ⟨gO, 0, none⟩)]) (f3 := .func (.func 23) #[] #[]) rfl hr.oh h1 (by omega) (by omega) (by rw [h2, ints_length]; omega)).mono ?_
  rintro e w' ⟨rfl, t1, vo, hp2⟩
  refine ⟨rfl, _, hp2, ⟨⟨?_, ?_, hr.sp, hr.ps, hr.ms⟩, ?_⟩⟩
  · show g.vs ++ [F []] = (s.views ++ [red.fresh]).map F
    rw [List.map_append, hr.vs]
    rfl
  · show (rs ++ [(t1, c.2 ++ [(g.vs.length : Int)])]).map (fun h : Hd => h.2) = s.up.reverse.map ints ++ [ints (s.cur ++ [s.views.length])]
    rw [List.map_append, h3, h2, hvl]
    simp [ints]
  · show rs.map (fun h : Hd => h.1) ++ [t1] = (rs ++ [(t1, _)]).map (fun h : Hd => h.1)
    rw [List.map_append]
    rfl
theorem leave_at (h : AT F w0 w gp gU gO s) (hn1 : s.up.length ≤ 100000) (hu : s.up ≠ []) :
    Calls Tryd.prog 44 #[.pointer (some ⟨gp, 0, none⟩)] w fun e w' => e = .returned (.tuple #[]) ∧ AT F w0 w' gp gU gO s.leave := by
  obtain ⟨g, hp, hr⟩ := h
  obtain ⟨rs, c, h1, h2, h3, h4⟩ := hr.last
  refine (leave_calls hp (fF_len gU gO) hr.oh h1 (by have := hr.rows_len; omega)).mono ?_
  rintro e w' ⟨rfl, ro, hp2⟩
  refine ⟨rfl, _, hp2, ⟨⟨hr.vs, ?_, hr.sp, hr.ps, hr.ms⟩, rfl⟩⟩
  show rs.map (·.2) = s.up.tail.reverse.map ints ++ [ints (s.up.headD [])]
  rw [h3]
  cases hs : s.up with
  | nil => exact absurd hs hu
  | cons r up => simp
theorem merge_at (h : AT F w0 w gp gU gO s) (hF : FnOk w0 gU gO F X) (hX : ∀ y, y ∈ L → X y) (hB : Bd n s L) (hn : n ≤ 100000) (t : Nat) :
    Calls Tryd.prog 43 #[.pointer (some ⟨gp, 0, none⟩), .int .i64 (t : Int)] w fun e w' => e = .returned (.tuple #[]) ∧ AT F w0 w' gp gU gO (s.merge red t) := by
  obtain ⟨g, hp, hr⟩ := h
  obtain ⟨pre, hmi, _⟩ := hB.inv.mi
  obtain ⟨hne, hl, _⟩ := hB.cur
  exact merge_calls hp hr (fF_len gU gO) rfl t hmi hF.join hX (by have := hB.len; omega) (by have := hB.views; omega) (by omega) (by have := hB.up; omega) hne
/-- A play's beginning. -/
def begun (ps : List Int) : St (List Int) := { cur := [], up := [], spawns := [], count := 0, views := [], picks := ps, merges := [], looks := [] }
theorem begun_made (ps : List Int) : (begun ps).made red = Play.start red ps := rfl
end
end Go.Proofs.YtamfkglnejhjdaaDoor.PlayState
