/- hyper.play[int64] in memory: its rows, its hand, its leaving, its picks. -/
import Derived.Test.YtamfkglnejhjdaaDoorPlayPure
import Derived.Test.YtamfkglnejhjdaaDoorBitMath
import Derived.Test.YtamfkglnejhjdaaDoorQuietCall
import Derived.Test.YtamfkglnejhjdaaDoorPHyperFoldx0
import Derived.Deep.DeepCutAuto
import Derived.Test.YtamfkglnejhjdaaDoorWShort
namespace Go.Proofs.YtamfkglnejhjdaaDoor.Fam
open Go.Proofs.YtamfkglnejhjdaaDoorW.PrintLast (pS tS lb)
open Go.RowKit Go.Proofs.YtamfkglnejhjdaaDoorW.PrintWords

def Ap (v u : Value) : Prop := v.ownBlock = none ∨ v.ownBlock ≠ u.ownBlock
theorem Ap.symm {v u : Value} (h : Ap v u) : Ap u v := by
 unfold Ap at *
 cases hu : u.ownBlock with
 | none => exact .inl rfl
 | some b =>
  refine .inr fun e => ?_
  rcases h with h | h
  ·rw [h] at e; cases e
  ·exact h (by rw [hu]; exact e.symm)
structure Fam {α : Type} (enc : α → Value) (e : Nat) (w : World) (base : Nat) (L : List (Value × List α)) : Prop where
 own : ∀ p, p ∈ L → w.ownsRow base e 1 p.1 p.2.length (encs enc p.2)
 apart : L.Pairwise (fun p q => Ap p.1 q.1)
section
variable {α : Type} {enc : α → Value} {e : Nat} {w w1 : World} {base : Nat} {L : List (Value × List α)} {v v1 : Value} {xs xs1 : List α} {i : Nat}
theorem Fam.nil (w : World) (base : Nat) : Fam enc e w base [] := ⟨(fun p h => by cases h), .nil⟩
theorem Fam.lt (h : Fam enc e w base L) {p : Value × List α} (hp : p ∈ L) {b : Nat} (hb : p.1.ownBlock = some b) : base ≤ b ∧ b < w.heap.size := ⟨own_base (h.own p hp) b hb, own_lt (h.own p hp) b hb⟩
theorem Fam.R {h1 : ∀ x : α, (enc x).oneCell' = true} (h : Fam enc e w base L) {p : Value × List α} (hp : p ∈ L) : (Kd.scalar enc h1).R e w base (fun b => p.1.ownBlock = some b) p.1 p.2 := Kd.R_of_own (h.own p hp) (fun _ hb => hb)
theorem Fam.moved (h : Fam enc e w base L) (hk : ∀ b, b < w.heap.size → (∃ p, p ∈ L ∧ p.1.ownBlock = some b) → w1.heap[b]? = w.heap[b]?) : Fam enc e w1 base L :=
 ⟨fun p hp => own_move (h.own p hp) (fun b hb => hk b (h.lt hp hb).2 ⟨p, hp, hb⟩), h.apart⟩
theorem Fam.below (h : Fam enc e w base L) (hb : Below w.heap.size w w1) : Fam enc e w1 base L := h.moved (fun b hlt _ => hb.block b hlt)
theorem Fam.far (h : Fam enc e w base L) {g t : Nat} {cells : Array Value} (hg : w.heap[g]? = some (.cells cells t (0, 0))) (ht : e ≠ t) (hk : ∀ b, b < w.heap.size → b ≠ g → w1.heap[b]? = w.heap[b]?) : Fam enc e w1 base L :=
 h.moved (fun b hlt ⟨p, hp, hb⟩ => hk b hlt (by
  rintro rfl
  obtain ⟨cells', hc⟩ := own_typed (h.own p hp) b hb
  rw [hg] at hc
  injection hc with hc
  injection hc with _ hc
  exact ht hc.symm))
theorem pairwise_set {α : Type} {R : α → α → Prop} (hs : ∀ a b, R a b → R b a) : ∀ (L : List α) (i : Nat) (x : α), L.Pairwise R → (∀ j y, j ≠ i → L[j]? = some y → R x y) → (L.set i x).Pairwise R
 | [], i, x, h, _ => by simp
 | a :: L, 0, x, h, hx => by
  rw [List.pairwise_cons] at h
  rw [List.set_cons_zero, List.pairwise_cons]
  exact ⟨fun y hy => by
   obtain ⟨j, hj⟩ := List.mem_iff_getElem?.1 hy
   exact hx (j + 1) y (by omega) (by simpa using hj), h.2⟩
 | a :: L, i + 1, x, h, hx => by
  rw [List.pairwise_cons] at h
  rw [List.set_cons_succ, List.pairwise_cons]
  refine ⟨fun y hy => ?_, pairwise_set hs L i x h.2 (fun j y hj hy => hx (j + 1) y (by omega) (by simpa using hy))⟩
  rcases List.mem_or_eq_of_mem_set hy with hy | rfl
  ·exact h.1 y hy
  ·exact hs _ _ (hx 0 a (by omega) rfl)
theorem Fam.put (h : Fam enc e w base L) (hi : L[i]? = some (v, xs)) (hown : w1.ownsRow base e 1 v1 xs1.length (encs enc xs1)) (hk : ∀ b, b < w.heap.size → v.ownBlock ≠ some b → w1.heap[b]? = w.heap[b]?)
  (hat : v1.ownBlock = v.ownBlock ∨ v1.ownBlock = none ∨ ∃ b, v1.ownBlock = some b ∧ w.heap.size ≤ b) : Fam enc e w1 base (L.set i (v1, xs1)) := by
 have hne : ∀ j y, j ≠ i → L[j]? = some y → Ap v y.1 := fun j y hj hy => by
  have hp := List.pairwise_iff_getElem.1 h.apart
  obtain ⟨hi1, hi2⟩ := List.getElem?_eq_some_iff.1 hi
  obtain ⟨hj1, hj2⟩ := List.getElem?_eq_some_iff.1 hy
  rcases Nat.lt_or_gt_of_ne hj with hlt | hlt
  ·have := hp j i hj1 hi1 hlt
   rw [hi2, hj2] at this
   exact this.symm
  ·have := hp i j hi1 hj1 hlt
   rw [hi2, hj2] at this
   exact this
 refine ⟨fun p hp => ?_, pairwise_set (fun _ _ h => h.symm) L i _ h.apart (fun j y hj hy => ?_)⟩
 ·obtain ⟨j, hj⟩ := List.mem_iff_getElem?.1 hp
  by_cases e : i = j
  ·subst e
   have hlt := (List.getElem?_eq_some_iff.1 hi).1
   rw [List.getElem?_set_self hlt] at hj
   injection hj with hj
   subst hj
   exact hown
  ·rw [List.getElem?_set_ne e] at hj
   have hm : p ∈ L := List.mem_iff_getElem?.2 ⟨j, hj⟩
   refine own_move (h.own p hm) (fun b hb => hk b (h.lt hm hb).2 (fun e2 => ?_))
   rcases hne j p (Ne.symm e) hj with h1 | h1
   ·rw [h1] at e2; cases e2
   ·exact h1 (by rw [e2, hb])
 ·have hm : y ∈ L := List.mem_iff_getElem?.2 ⟨j, hy⟩
  unfold Ap
  rcases hat with h1 | h1 | ⟨b, h1, h2⟩
  ·rw [h1]; exact hne j y hj hy
  ·exact .inl h1
  ·refine .inr fun e2 => ?_
   rw [h1] at e2
   have := (h.lt hm e2.symm).2
   omega
theorem Fam.add (h : Fam enc e w base L) (hown : w1.ownsRow base e 1 v1 xs1.length (encs enc xs1)) (hk : ∀ b, b < w.heap.size → w1.heap[b]? = w.heap[b]?) (hat : ∀ b, v1.ownBlock = some b → w.heap.size ≤ b) : Fam enc e w1 base (L ++ [(v1, xs1)]) := by
 refine ⟨fun p hp => ?_, ?_⟩
 ·rcases List.mem_append.1 hp with hp | hp
  ·exact own_move (h.own p hp) (fun b hb => hk b (h.lt hp hb).2)
  ·rw [List.mem_singleton] at hp
   subst hp
   exact hown
 ·rw [List.pairwise_append]
  refine ⟨h.apart, by simp, fun a ha b hb => ?_⟩
  rw [List.mem_singleton] at hb
  subst hb
  unfold Ap
  cases hv : a.1.ownBlock with
  | none => exact .inl rfl
  | some g =>
   refine .inr fun e2 => ?_
   have h1 := (h.lt ha hv).2
   have h2 := hat g e2.symm
   omega
theorem Fam.two (h : Fam enc e w base (L ++ [(v, xs)])) (h1 : Fam enc e w base (L ++ [(v1, xs1)])) (hap : Ap v v1) : Fam enc e w base (L ++ [(v, xs), (v1, xs1)]) := by
 refine ⟨fun p hp => ?_, ?_⟩
 ·simp only [List.mem_append, List.mem_cons, List.not_mem_nil, or_false] at hp
  rcases hp with hp | rfl | rfl
  ·exact h.own p (by simp [hp])
  ·exact h.own _ (by simp)
  ·exact h1.own _ (by simp)
 ·have a1 := List.pairwise_append.1 h.apart
  have a2 := List.pairwise_append.1 h1.apart
  rw [List.pairwise_append]
  refine ⟨a1.1, by simp [hap], fun a ha b hb => ?_⟩
  simp only [List.mem_cons, List.not_mem_nil, or_false] at hb
  rcases hb with rfl | rfl
  ·exact a1.2.2 a ha _ (by simp)
  ·exact a2.2.2 a ha _ (by simp)
end

end Go.Proofs.YtamfkglnejhjdaaDoor.Fam

namespace Go.Proofs.YtamfkglnejhjdaaDoor.PlayState
open Go.Proofs.YtamfkglnejhjdaaDoorW.PrintLast (pS tS lb)
open Go.RowKit Go.Proofs.YtamfkglnejhjdaaDoorW.PrintWords Go.Proofs.YtamfkglnejhjdaaDoor.Fam
set_option linter.unusedVariables false
abbrev Sl := Option Addr × Nat × Nat
def slv (t : Sl) : Value := .slice t.1 t.2.1 t.2.2
theorem slv_one (t : Sl) : (slv t).oneCell' = true := rfl
abbrev kSl : Kd Sl := Kd.scalar slv slv_one
abbrev Hd := Sl × List Int
def hv (h : Hd) : Value × List Int := (slv h.1, h.2)
structure Gh where
 vs : List Int
 rs : List Hd
 sp : Hd
 vo : Sl
 ro : Sl
 mo : Sl
 po : Sl
 ps : List Int
 ms : List (Int × Int × Int)
 oh : List Sl
abbrev k3 : Kd (Int × Int × Int) := Kd.pair (Kd.int .i64) (Kd.pair (Kd.int .i64) (Kd.int .i64))
def cells (f : List Value) (g : Gh) : Array Value := (f ++ [slv g.vo, slv g.ro, slv g.sp.1, slv g.po, slv g.mo]).toArray
structure PS (w0 w : World) (gp : Nat) (f : List Value) (g : Gh) : Prop where
 hb : Below w0.heap.size w0 w
 bp : w.heap[gp]? = some (.cells (cells f g) 61 (0, 0))
 gep : w0.heap.size ≤ gp
 f2 : Fam (Value.int .i64) 2 w w0.heap.size [(slv g.vo, g.vs)]
 f3 : Fam (Value.int .i64) 3 w w0.heap.size (g.rs.map hv ++ [hv g.sp])
 f24 : Fam slv 24 w w0.heap.size [(slv g.ro, g.oh)]
 mg : Kd.R k3 103 w w0.heap.size (fun _ => True) (slv g.mo) g.ms
 pk : Kd.C (Kd.int .i64) w0 g.po.1 g.ps.length g.ps ∧ g.po.2.1 = g.ps.length ∧ g.ps.length ≤ g.po.2.2
section
variable {w0 w w1 : World} {gp : Nat} {f : List Value} {g : Gh}
theorem PS.below (h : PS w0 w gp f g) (hb : Below w.heap.size w w1) : PS w0 w1 gp f g :=
 ⟨below_step h.hb hb, blk_below h.bp hb, h.gep, h.f2.below hb, h.f3.below hb, h.f24.below hb, Kd.R_below h.mg hb, h.pk⟩
theorem PS.cellw (h : PS w0 w gp f g) (i : Nat) (u : Value) {g2 : Gh} (hc : (cells f g).setIfInBounds i u = cells f g2) (h2 : Fam (Value.int .i64) 2 w w0.heap.size [(slv g2.vo, g2.vs)])
  (h3 : Fam (Value.int .i64) 3 w w0.heap.size (g2.rs.map hv ++ [hv g2.sp])) (h24 : Fam slv 24 w w0.heap.size [(slv g2.ro, g2.oh)])
  (hm : Kd.R k3 103 w w0.heap.size (fun _ => True) (slv g2.mo) g2.ms) (hp : Kd.C (Kd.int .i64) w0 g2.po.1 g2.ps.length g2.ps ∧ g2.po.2.1 = g2.ps.length ∧ g2.ps.length ≤ g2.po.2.2) :
  PS w0 (w.setCell ⟨gp, i, none⟩ u) gp f g2 := by
 have hk : ∀ b, b < w.heap.size → b ≠ gp → (w.setCell ⟨gp, i, none⟩ u).heap[b]? = w.heap[b]? := fun b _ hb => by
  exact (Kept.setCell (S := fun k => k = gp) (Kept.refl w _) (p := ⟨gp, i, none⟩) (.inl rfl) u).2 b (by assumption) hb
 exact ⟨h.hb.setCell (p := ⟨gp, i, none⟩) h.gep _, blk_put h.bp i u hc, h.gep, h2.far h.bp (by decide) hk, h3.far h.bp (by decide) hk, h24.far h.bp (by decide) hk, Kd.R_mono (Kd.R_kept (S := fun k => k = gp) (Kd.R_types hm h.bp (fun q hq => by
   have : q = 103 := by simpa [Kd.int, Kd.scalar, Kd.pair] using hq
   omega)) ((Kept.refl w (fun k => k = gp)).setCell (p := ⟨gp, i, none⟩) (.inl rfl) u) (fun k hk e => hk.2 e)) (fun k hk => hk.1), hp⟩
end
theorem fam_at {α : Type} {enc : α → Value} {e : Nat} {h1 : ∀ x : α, (enc x).oneCell' = true} {w : World} {base : Nat} {L : List (Value × List α)} {v : Value} {xs : List α} (h : Fam enc e w base L) (i : Nat) (hq : L[i]? = some (v, xs)) (d : α) (j : Nat) (hj : j < xs.length) :
  ∃ g c, v = .slice (some ⟨g, 0, none⟩) xs.length c ∧ w.cell? ⟨g, j, none⟩ = some (enc (xs.getD j d)) ∧ w.frozen? ⟨g, j, none⟩ = false := by
 have hr := Fam.R (h1 := h1) h (List.mem_iff_getElem?.2 ⟨i, hq⟩)
 obtain ⟨g, c, e1, _, _, _, _⟩ := Kd.R_form hr (by show 0 < xs.length; omega)
 replace e1 : v = .slice (some ⟨g, 0, none⟩) xs.length c := e1
 subst e1
 obtain ⟨hx, hf⟩ := Kd.R_celln d hr (j : Int) (by omega) (by omega)
 rw [Int.toNat_natCast] at hx hf
 exact ⟨g, c, rfl, by rw [hx]; simp [rdOf], hf⟩
theorem slv_form {t : Sl} {g n c : Nat} (h : slv t = .slice (some ⟨g, 0, none⟩) n c) : t = (some ⟨g, 0, none⟩, n, c) := by
 obtain ⟨a, b, d⟩ := t
 injection h with h1 h2 h3
 simp_all
end Go.Proofs.YtamfkglnejhjdaaDoor.PlayState

namespace Go.Proofs.YtamfkglnejhjdaaDoor.PlayState
open Go.Proofs.YtamfkglnejhjdaaDoorW.PrintLast (pS tS lb)
open Go.RowKit Go.Proofs.YtamfkglnejhjdaaDoorW.PrintWords Go.Proofs.YtamfkglnejhjdaaDoorW.PrintLast Go.Proofs.YtamfkglnejhjdaaDoorW.PrintMore Go.Proofs.YtamfkglnejhjdaaDoor.Fam
set_option linter.unusedSimpArgs false
set_option linter.unusedVariables false

def H42 : Bool × List (List Nat × List Nat) := (true, [([], []), ([0], [0]), ([1], [1]), ([2], [2]), ([], []), ([4], [4]), ([5], [5]), ([6], [6]), ([7], [7]), ([8], [8]), ([3, 9], [3, 9]), ([10], [10]), ([11, 0, 1, 2, 3, 4, 5, 6, 7, 8, 9, 10, 11], [11])])
def H42B : List Nat := [0, 1, 3, 7, 0, 16, 48, 112, 240, 496, 1023, 2047, 4095]
theorem H42_tab : rtab .any (opsOf Tryd.f42 1) = H42 := by kernel_rfl
theorem H42_bits : waitsOk H42.2 H42B = true := by kernel_rfl

theorem last_row {w0 w : World} {gp : Nat} {f : List Value} {g : Gh} (h : PS w0 w gp f g) (hf : f.length = 4) (hoh : g.oh = g.rs.map (·.1)) {rs : List Hd} {c : Hd} (hr : g.rs = rs ++ [c]) (hc : 0 < c.2.length) :
  ∃ gr cr gi ci, g.ro = (some ⟨gr, 0, none⟩, g.rs.length, cr) ∧ c.1 = (some ⟨gi, 0, none⟩, c.2.length, ci) ∧
   w.cell? ⟨gp, 5, none⟩ = some (.slice (some ⟨gr, 0, none⟩) g.rs.length cr) ∧ w.cell? ⟨gr, g.rs.length - 1, none⟩ = some (.slice (some ⟨gi, 0, none⟩) c.2.length ci) ∧
   w.cell? ⟨gi, c.2.length - 1, none⟩ = some (.int .i64 (c.2.getD (c.2.length - 1) 0)) := by
 have hf24 := h.f24
 rw [hoh] at hf24
 obtain ⟨gr, cr, e1, hx1, _⟩ := fam_at (h1 := slv_one) hf24 0 rfl (none, 0, 0) (g.rs.length - 1) (by rw [hr]; simp)
 obtain ⟨gi, ci, e2, hx2, _⟩ := fam_at (h1 := fun _ => rfl) h.f3 rs.length (v := slv c.1) (xs := c.2) (by rw [hr]; simp [hv]) 0 (c.2.length - 1) (by omega)
 have e1' := slv_form e1
 have e2' := slv_form e2
 rw [List.length_map] at e1'
 refine ⟨gr, cr, gi, ci, e1', e2', ?_, ?_, hx2⟩
 ·have hb := (blk_cell h.bp 5)
  rw [hb]
  obtain ⟨a, b, c', d, rfl⟩ : ∃ a b c' d, f = [a, b, c', d] := by
   match f, hf with
   | [a, b, c', d], _ => exact ⟨a, b, c', d, rfl⟩
  show some (slv g.ro) = _
  rw [e1']
  rfl
 ·rw [hx1]
  have : (g.rs.map (·.1)).getD (g.rs.length - 1) (none, 0, 0) = c.1 := by rw [hr]; simp
  rw [this, e2']
  rfl
set_option maxHeartbeats 4000000 in
set_option maxRecDepth 100000 in
theorem hand_walk (gp gr gi k j cr ci : Nat) (y : Int) (w : World) (hn2 : k ≤ 4194304) (hm2 : j ≤ 4194304)
  (hx5 : w.cell? ⟨gp, 5, none⟩ = some (.slice (some ⟨gr, 0, none⟩) (k + 1) cr)) (hxr : w.cell? ⟨gr, k, none⟩ = some (.slice (some ⟨gi, 0, none⟩) (j + 1) ci)) (hxi : w.cell? ⟨gi, j, none⟩ = some (.int .i64 y)) :
  Calls Tryd.prog 42 #[.pointer (some ⟨gp, 0, none⟩)] w fun e w' => e = .returned (.int .i64 y) ∧ Drawn0 w w' := by
 have hn3 : (k : Int) ≤ 4194304 := by omega
 have hm3 : (j : Int) ≤ 4194304 := by omega
 have HP2 := Aside0.mk (show w.drew.cell? ⟨gi, j, none⟩ = some (.int .i64 y) from hxi)
 have hw1 : wrap64 ((k : Int) + 1 - 1) = (k : Int) := by rw [BitMath.wrap_id (by unfold BitMath.In64; omega)]; omega
 have hw3 : wrap64 (k : Int) = (k : Int) := BitMath.wrap_id (by unfold BitMath.In64; omega)
 have hw2 : wrap64 ((j : Int) + 1 - 1) = (j : Int) := by rw [BitMath.wrap_id (by unfold BitMath.In64; omega)]; omega
 have hw4 : wrap64 (j : Int) = (j : Int) := BitMath.wrap_id (by unfold BitMath.In64; omega)
 have l1 : ((k : Int) < (k : Int) + 1) = True := eq_true (by omega)
 have l2 : ((j : Int) < (j : Int) + 1) = True := eq_true (by omega)
 have HDr := Aside0.mk (show Drawn0 w w.drew from ⟨⟨1, rfl⟩⟩)
 clear hxi
 go_enter Tryd.func42, Tryd.ntmps42
 go_upto_region 1 with fail
 refine start_ (n := 13) (S := (fun w' => w'.cell? ⟨gp, 5, none⟩ = some (.slice (some ⟨gr, 0, none⟩) (k + 1) cr) ∧ w'.cell? ⟨gr, k, none⟩ = some (.slice (some ⟨gi, 0, none⟩) (j + 1) ci))) (ds := [12]) (lb 13 0) (by kernel_rfl) rfl rfl ⟨hx5, hxr⟩ (fun hHeld => ?_); refine with_tabW H42_tab H42_bits (fun HT_ HW_ => ?_)
 generalize w.drew = w2 at HP2 HDr hHeld ⊢
 refine pS 0 4 1 13 HT_.out ?_
 refine pS 1 5 3 13 HT_.out ?_
 refine pS 2 6 7 13 HT_.out ?_
 refine tS 3 7 15 13 HT_.out HW_.out hHeld ?_
 refine pS 4 8 31 13 HT_.out ?_
 refine pS 5 9 63 13 HT_.out ?_
 refine pS 6 10 127 13 HT_.out ?_
 refine tS 7 11 255 13 HT_.out HW_.out hHeld ?_
 refine pS 8 12 511 13 HT_.out ?_
 refine pS 9 13 1023 13 HT_.out ?_
 refine pS 10 14 2047 13 HT_.out ?_
 refine tS 11 15 4095 13 HT_.out HW_.out hHeld ?_
 refine pS 12 3 8191 13 HT_.out ?_
 refine done_ (done_of HT_.out (by kernel_rfl)) ?_
 clear HT_ HW_ hHeld

 have hxi := HP2.out
 go_wp2
 go_ret
 exact ⟨rfl, HDr.out⟩
theorem hand_calls {w0 w : World} {gp : Nat} {f : List Value} {g : Gh} (h : PS w0 w gp f g) (hf : f.length = 4) (hoh : g.oh = g.rs.map (·.1)) {rs : List Hd} {c : Hd} (hr : g.rs = rs ++ [c]) (hc : 0 < c.2.length) (hc2 : c.2.length ≤ 4194304) (hl : g.rs.length ≤ 4194304) :
  Calls Tryd.prog 42 #[.pointer (some ⟨gp, 0, none⟩)] w fun e w' => e = .returned (.int .i64 (c.2.getD (c.2.length - 1) 0)) ∧ Drawn0 w w' := by
 obtain ⟨gr, cr, gi, ci, _, _, h1, h2, h3⟩ := last_row h hf hoh hr hc
 have hp : 0 < g.rs.length := by rw [hr]; simp
 rw [show g.rs.length = (g.rs.length - 1) + 1 from by omega] at h1
 rw [show c.2.length = (c.2.length - 1) + 1 from by omega] at h2
 exact hand_walk gp gr gi (g.rs.length - 1) (c.2.length - 1) cr ci _ w (by omega) (by omega) h1 h2 h3
end Go.Proofs.YtamfkglnejhjdaaDoor.PlayState

namespace Go.Proofs.YtamfkglnejhjdaaDoor.PlayState
open Go.Proofs.YtamfkglnejhjdaaDoorW.PrintLast (pS tS lb)
open Go.RowKit Go.Proofs.YtamfkglnejhjdaaDoorW.PrintWords Go.Proofs.YtamfkglnejhjdaaDoorW.PrintLast Go.Proofs.YtamfkglnejhjdaaDoorW.PrintMore Go.Proofs.YtamfkglnejhjdaaDoor.Fam
set_option linter.unusedSimpArgs false
set_option linter.unusedVariables false

def L44 : Bool × List (List Nat × List Nat) := (true, [([], []), ([], []), ([1], [1]), ([2], [2]), ([3], [3]), ([], []), ([5], [5]), ([6], [6]), ([7], [7]), ([8], [8]), ([9], [9]), ([4, 10], [4, 10]), ([0, 0, 1, 2, 3, 4, 5, 6, 7, 8, 9, 10, 11], [0]), ([12, 0, 1, 2, 3, 4, 5, 6, 7, 8, 9, 10, 11], [12]), ([13, 11, 0, 1, 2, 3, 4, 5, 6, 7, 8, 9, 10, 11], [11, 13])])
def L44B : List Nat := [0, 0, 2, 6, 14, 0, 32, 96, 224, 480, 992, 2046, 4095, 8191, 16383]
theorem L44_tab : rtab .any (opsOf Tryd.f44 0) = L44 := by kernel_rfl
theorem L44_bits : waitsOk L44.2 L44B = true := by kernel_rfl

set_option maxHeartbeats 4000000 in
set_option maxRecDepth 100000 in
theorem leave_walk (gp gr k cr : Nat) (w : World) (hn2 : k ≤ 4194304) (hk : k ≤ cr)
  (hx5 : w.cell? ⟨gp, 5, none⟩ = some (.slice (some ⟨gr, 0, none⟩) (k + 1) cr)) (hf : w.frozen? ⟨gp, 5, none⟩ = false) :
  Calls Tryd.prog 44 #[.pointer (some ⟨gp, 0, none⟩)] w fun e w' => e = .returned (.tuple #[]) ∧ ∃ w2, Drawn0 w w2 ∧ w' = w2.setCell ⟨gp, 5, none⟩ (.slice (some ⟨gr, 0, none⟩) k cr) := by
 have hn3 : (k : Int) ≤ 4194304 := by omega
 have hw1 : wrap64 ((k : Int) + 1 - 1) = (k : Int) := by rw [BitMath.wrap_id (by unfold BitMath.In64; omega)]; omega
 have hw3 : wrap64 (k : Int) = (k : Int) := BitMath.wrap_id (by unfold BitMath.In64; omega)
 have l1 : (k ≤ cr) = True := eq_true hk
 have HF := Aside0.mk (show w.drew.frozen? ⟨gp, 5, none⟩ = false from hf)
 have HDr := Aside0.mk (show Drawn0 w w.drew from ⟨⟨1, rfl⟩⟩)
 clear hf
 go_enter Tryd.func44, Tryd.ntmps44
 refine start_ (n := 15) (S := (fun w' => w'.cell? ⟨gp, 5, none⟩ = some (.slice (some ⟨gr, 0, none⟩) (k + 1) cr))) (ds := [14]) (lb 15 0) (by kernel_rfl) rfl rfl hx5 (fun hHeld => ?_); refine with_tabW L44_tab L44_bits (fun HT_ HW_ => ?_)
 generalize w.drew = w2 at HF HDr hHeld ⊢
 refine pS 0 2 1 15 HT_.out ?_
 refine pS 1 3 3 15 HT_.out ?_
 refine pS 2 4 7 15 HT_.out ?_
 refine pS 3 5 15 15 HT_.out ?_
 refine tS 4 6 31 15 HT_.out HW_.out hHeld ?_
 refine pS 5 7 63 15 HT_.out ?_
 refine pS 6 8 127 15 HT_.out ?_
 refine pS 7 9 255 15 HT_.out ?_
 refine tS 8 10 511 15 HT_.out HW_.out hHeld ?_
 refine pS 9 11 1023 15 HT_.out ?_
 refine pS 10 12 2047 15 HT_.out ?_
 refine pS 11 13 4095 15 HT_.out ?_
 refine pS 12 14 8191 15 HT_.out ?_
 refine pS 13 15 16383 15 HT_.out ?_
 have hf := HF.out
 refine last_ (i := 14) (N := none) (lb 15 32767) rfl rfl (one_of HT_.out (by kernel_rfl)) (by decide) (fun K hK => ?_)
 refine skip_ (w1 := ?_) (by rfl) rfl ?_ ?_
 rotate_left
 ·go_simp
  rfl
 refine hK.out _ _ ?_
 clear hK K
 refine done_ (done_of HT_.out (by kernel_rfl)) ?_
 clear HT_ HW_ hHeld

 go_wp2
 go_end0
 exact ⟨rfl, _, HDr.out, rfl⟩

theorem PS.cell {w0 w : World} {gp : Nat} {f : List Value} {g : Gh} (h : PS w0 w gp f g) (hf : f.length = 4) :
  w.cell? ⟨gp, 4, none⟩ = some (slv g.vo) ∧ w.cell? ⟨gp, 5, none⟩ = some (slv g.ro) ∧ w.cell? ⟨gp, 6, none⟩ = some (slv g.sp.1) ∧ w.cell? ⟨gp, 7, none⟩ = some (slv g.po) ∧ w.cell? ⟨gp, 8, none⟩ = some (slv g.mo) := by
 obtain ⟨a, b, c', d, rfl⟩ : ∃ a b c' d, f = [a, b, c', d] := by
  match f, hf with
  | [a, b, c', d], _ => exact ⟨a, b, c', d, rfl⟩
 exact ⟨(blk_cell h.bp 4).trans rfl, (blk_cell h.bp 5).trans rfl, (blk_cell h.bp 6).trans rfl, (blk_cell h.bp 7).trans rfl, (blk_cell h.bp 8).trans rfl⟩
theorem fam_less {α : Type} {enc : α → Value} {e : Nat} {w : World} {base : Nat} {L L2 : List (Value × List α)} (h : Fam enc e w base L) (hs : L2.Sublist L) : Fam enc e w base L2 :=
 ⟨fun p hp => h.own p (hs.subset hp), h.apart.sublist hs⟩
theorem fam_take {α : Type} {enc : α → Value} {e : Nat} {w : World} {base : Nat} {A : Option Addr} {n c : Nat} {xs : List α} (h : Fam enc e w base [(.slice A n c, xs)]) (m : Nat) (hm : m ≤ n) (hn : n = xs.length) : Fam enc e w base [(.slice A m c, xs.take m)] := by
 refine ⟨fun p hp => ?_, by simp⟩
 rw [List.mem_singleton] at hp
 subst hp
 have h1 := h.own _ (List.mem_singleton.2 rfl)
 simp only at h1
 rw [← hn] at h1
 have h2 := own_take h1 hm
 have e1 : (encs enc xs).take (m * 1) = encs enc (xs.take m) := by simp [encs, List.map_take]
 rw [e1] at h2
 show World.ownsRow w base e 1 (.slice A m c) (xs.take m).length (encs enc (xs.take m))
 rw [List.length_take, Nat.min_eq_left (by omega)]
 exact h2
theorem leave_calls {w0 w : World} {gp : Nat} {f : List Value} {g : Gh} (h : PS w0 w gp f g) (hf : f.length = 4) (hoh : g.oh = g.rs.map (·.1)) {rs : List Hd} {c : Hd} (hr : g.rs = rs ++ [c]) (hl : g.rs.length ≤ 4194304) :
  Calls Tryd.prog 44 #[.pointer (some ⟨gp, 0, none⟩)] w fun e w' => e = .returned (.tuple #[]) ∧ ∃ ro, PS w0 w' gp f { g with rs := rs, ro := ro, oh := rs.map (·.1) } := by
 have hf24 := h.f24
 rw [hoh] at hf24
 have hlen : g.rs.length = rs.length + 1 := by rw [hr]; simp
 obtain ⟨gr, cr, e1, _, _⟩ := fam_at (h1 := slv_one) hf24 0 rfl (none, 0, 0) (g.rs.length - 1) (by rw [List.length_map]; omega)
 have e1' := slv_form e1
 rw [List.length_map] at e1'
 have hx := (h.cell hf).2.1
 rw [e1'] at hx
 have hc : g.rs.length ≤ cr := by
  have h1 := Fam.R (h1 := slv_one) hf24 (List.mem_singleton.2 rfl)
  rw [show (slv g.ro, g.rs.map (·.1)).1 = .slice (some ⟨gr, 0, none⟩) g.rs.length cr from by rw [e1']; rfl] at h1
  exact (Kd.R_reads' h1).2.1
 have hx2 : w.cell? ⟨gp, 5, none⟩ = some (.slice (some ⟨gr, 0, none⟩) (rs.length + 1) cr) := by rw [hx, hlen]; rfl
 refine (leave_walk gp gr rs.length cr w (by omega) (by omega) hx2 (blk_frozen h.bp 5)).mono ?_
 rintro e w' ⟨rfl, w2, hd, rfl⟩
 have h2 := h.below hd.below
 refine ⟨rfl, (some ⟨gr, 0, none⟩, rs.length, cr), ?_⟩
 refine h2.cellw 5 _ (g2 := { g with rs := rs, ro := (some ⟨gr, 0, none⟩, rs.length, cr), oh := rs.map (·.1) }) ?_ h2.f2 ?_ ?_ h2.mg h2.pk
 ·obtain ⟨a, b, c', d, rfl⟩ : ∃ a b c' d, f = [a, b, c', d] := by
   match f, hf with
   | [a, b, c', d], _ => exact ⟨a, b, c', d, rfl⟩
  rfl
 ·refine fam_less h2.f3 ?_
  rw [hr, List.map_append, List.append_assoc]
  exact List.Sublist.append_left (List.sublist_cons_self _ _) _
 ·have h3 := h2.f24
  rw [hoh, e1'] at h3
  have h4 := fam_take (A := some ⟨gr, 0, none⟩) (n := g.rs.length) (c := cr) h3 rs.length (by omega) (by simp)
  rw [← List.map_take, show g.rs.take rs.length = rs from by rw [hr]; simp] at h4
  exact h4
end Go.Proofs.YtamfkglnejhjdaaDoor.PlayState

namespace Go.Proofs.YtamfkglnejhjdaaDoor.PlayState
open Go.Proofs.YtamfkglnejhjdaaDoorW.PrintLast (pS tS lb)
open Go.Proofs.YtamfkglnejhjdaaDoor.PHyperFold (info3)
open Go.RowKit Go.Proofs.YtamfkglnejhjdaaDoorW.PrintWords Go.Proofs.YtamfkglnejhjdaaDoorW.PrintLast Go.Proofs.YtamfkglnejhjdaaDoorW.PrintMore Go.Proofs.YtamfkglnejhjdaaDoor.Fam
set_option linter.unusedSimpArgs false
set_option linter.unusedVariables false

set_option maxHeartbeats 4000000 in
set_option maxRecDepth 100000 in
theorem pick_calls {w0 w : World} {gp : Nat} {f : List Value} {g : Gh} (h : PS w0 w gp f g) (hf : f.length = 4) :
  Calls Tryd.prog 59 #[.pointer (some ⟨gp, 0, none⟩)] w fun e w' => e = .returned (.int .i64 (g.ps.headD 0)) ∧ ∃ po, PS w0 w' gp f { g with ps := g.ps.tail, po := po } := by
 obtain ⟨hC, hn, hc⟩ := h.pk
 have hx := (h.cell hf).2.2.2.1
 have hfz := blk_frozen h.bp 7
 obtain ⟨⟨A, n, c⟩, hpo⟩ : ∃ t : Sl, g.po = t := ⟨_, rfl⟩
 obtain ⟨ps, hps⟩ : ∃ ps, g.ps = ps := ⟨_, rfl⟩
 rw [hpo, hps] at hC hn hc
 rw [hpo] at hx
 replace hx : w.cell? ⟨gp, 7, none⟩ = some (.slice A n c) := hx
 replace hn : n = ps.length := hn
 replace hc : ps.length ≤ c := hc
 replace hC : Kd.C (Kd.int .i64) w0 A ps.length ps := hC
 rw [hps]
 subst hn
 have HH := Aside0.mk h
 cases ps with
 | nil =>
  clear hC hc h
  go_enter Tryd.func59, Tryd.ntmps59
  go_wp2
  go_ret
  exact ⟨rfl, g.po, by rw [show ({ g with ps := ([] : List Int).tail, po := g.po } : Gh) = g from by rw [show ([] : List Int).tail = g.ps from hps.symm]]; exact HH.out⟩
 | cons p ps =>
  obtain ⟨ad, e0, hx0⟩ := Kd.at_int (Kd.C_below hC h.hb) 0 (by omega) (by simp only [List.length_cons]; omega)
  cases e0
  have ep : rd (p :: ps) 0 = p := rfl
  rw [ep, show ad.add (0 : Int).toNat = ad from by cases ad; rfl] at hx0
  have hp : ps.length + 1 ≤ c := hc
  obtain ⟨i0, hi0, hz1⟩ : ∃ i, Tryd.prog.info? 3 = some i ∧ i.size = 1 := by
   have h := info3
   cases e : Tryd.prog.info? 3 with
   | none => rw [e] at h; cases h
   | some i => rw [e] at h; injection h with h; injection h with _ h; injection h with h _; exact ⟨i, rfl, h⟩
  obtain ⟨Q, hsl, hC2⟩ : ∃ Q : Option Addr, (∀ W : World, (Instr.slice 24 (.slice (some ad) (ps.length + 1) c) (some (.int .i64 1)) none none).run Tryd.prog W = .ok (.slice Q ps.length (c - 1)) W) ∧ Kd.C (Kd.int .i64) w0 Q ps.length ps := by
   have hm := Kd.C_drop (m := 1) hC (by simp only [List.length_cons]; omega) hc
   refine ⟨_, fun W => ?_, hm⟩
   exact cut_from (P := Tryd.prog) 24 3 .i64 Tryd.underlying24 hi0 1 hz1 (some ad) (ps.length + 1) c 1 (by omega) (by omega) W
  have HC := Aside0.mk hC2
  have hlen : ps.length ≤ c - 1 := by omega
  clear hC hC2 h hc hi0 hz1
  go_enter Tryd.func59, Tryd.ntmps59
  go_wp2
  go_ret
  refine ⟨rfl, (Q, ps.length, c - 1), ?_⟩
  have h2 := HH.out
  refine h2.cellw 7 _ (g2 := { g with ps := (p :: ps).tail, po := (Q, ps.length, c - 1) }) ?_ h2.f2 h2.f3 h2.f24 h2.mg ⟨HC.out, rfl, hlen⟩
  obtain ⟨a, b, c', d, rfl⟩ : ∃ a b c' d, f = [a, b, c', d] := by
   match f, hf with
   | [a, b, c', d], _ => exact ⟨a, b, c', d, rfl⟩
  rfl
end Go.Proofs.YtamfkglnejhjdaaDoor.PlayState

namespace Go.Proofs.YtamfkglnejhjdaaDoor.PlayState
open Go.Proofs.YtamfkglnejhjdaaDoorW.PrintLast (pS tS lb)
open Go.RowKit Go.Proofs.YtamfkglnejhjdaaDoorW.PrintWords Go.Proofs.YtamfkglnejhjdaaDoor.Fam
set_option linter.unusedVariables false
section
variable {α : Type} {enc : α → Value} {e : Nat} {w w1 : World} {base : Nat} {L : List (Value × List α)} {v v1 : Value} {xs xs1 : List α} {i : Nat}
theorem fam_grown (h : Fam enc e w base L) {row : Option Nat} (hg : w.grownBy w1 row) (hty : ∀ b, row = some b → ∃ cells t, w.heap[b]? = some (.cells cells t (0, 0)) ∧ e ≠ t) : Fam enc e w1 base L :=
 h.moved (fun b hlt ⟨p, hp, hb⟩ => hg.block b hlt (fun e2 => by
  obtain ⟨cells, t, h1, h2⟩ := hty b e2.symm
  obtain ⟨cells', h3⟩ := own_typed (h.own p hp) b hb
  rw [h1] at h3
  injection h3 with h3
  injection h3 with _ h3
  exact h2 h3.symm))
theorem fam_grew {h1 : ∀ x : α, (enc x).oneCell' = true} (h : Fam enc e w base L) (i : Nat) (hi : L[i]? = some (v, xs)) {ok : Nat → Prop} (ho : (Kd.scalar enc h1).R e w1 base ok v1 xs1) (hg : w.grownBy w1 v.ownBlock) (hat : v1.ownBlock = v.ownBlock ∨ ∃ b, v1.ownBlock = some b ∧ w.heap.size ≤ b) : Fam enc e w1 base (L.set i (v1, xs1)) :=
 h.put hi (Kd.own_of_R ho) (fun b hb hne => hg.block b hb (fun e2 => hne e2.symm)) (hat.elim .inl (fun h => .inr (.inr h)))
theorem fam_wrote {h1 : ∀ x : α, (enc x).oneCell' = true} {g n c : Nat} (h : Fam enc e w base L) (i : Nat) (hi : L[i]? = some (.slice (some ⟨g, 0, none⟩) n c, xs)) (j : Nat) (x : α) :
  Fam enc e (w.setCell ⟨g, j, none⟩ (enc x)) base (L.set i (.slice (some ⟨g, 0, none⟩) n c, xs.set j x)) := by
 have hm := List.mem_iff_getElem?.2 ⟨i, hi⟩
 have hr := Fam.R (h1 := h1) h hm
 have hp := Kd.R_putn hr (j : Int) x
 rw [Int.toNat_natCast] at hp
 refine h.put hi (Kd.own_of_R hp) (fun b hb hne => ?_) (.inl rfl)
 exact Below.heap_setCell w ⟨g, j, none⟩ (enc x) b (fun e2 => hne (by rw [e2]; rfl))
end
theorem k3_E : ∀ q, q ∈ (103 : Nat) :: k3.E → q = 103 := fun q hq => by simpa [Kd.int, Kd.scalar, Kd.pair] using hq
theorem mg_grown {w w1 : World} {base : Nat} {v : Value} {ms : List (Int × Int × Int)} (h : Kd.R k3 103 w base (fun _ => True) v ms) (hE : ∀ q, q ∈ (103 : Nat) :: k3.E → q = 103) {row : Option Nat} (hg : w.grownBy w1 row) (hty : ∀ b, row = some b → ∃ cells t, w.heap[b]? = some (.cells cells t (0, 0)) ∧ 103 ≠ t) : Kd.R k3 103 w1 base (fun _ => True) v ms := by
 cases row with
 | none => exact Kd.R_grown h hg (fun _ _ => by simp)
 | some g =>
  obtain ⟨cells, t, h1, h2⟩ := hty g rfl
  have h3 := Kd.R_types h h1 (fun q hq => by rw [hE q hq]; exact h2)
  exact Kd.R_mono (Kd.R_grown h3 hg (fun k hk e2 => hk.2 (by injection e2))) (fun k hk => hk.1)
section
variable {w0 w w1 : World} {gp : Nat} {f : List Value} {g : Gh}
theorem PS.typed3 (h : PS w0 w gp f g) {v : Value} {xs : List Int} (hm : (v, xs) ∈ g.rs.map hv ++ [hv g.sp]) : ∀ b, v.ownBlock = some b → ∃ cells t, w.heap[b]? = some (.cells cells t (0, 0)) ∧ 3 = t := fun b hb => by
 obtain ⟨cells, hc⟩ := own_typed (h.f3.own _ hm) b hb
 exact ⟨cells, 3, hc, rfl⟩
theorem PS.row_grew (h : PS w0 w gp f g) {os : List Sl} {o : Sl} (hoh : g.oh = os ++ [o]) {rs : List Hd} {c : Hd} (hr : g.rs = rs ++ [c]) (hl : os.length = rs.length) {gr cr : Nat} (hro : g.ro = (some ⟨gr, 0, none⟩, g.rs.length, cr)) {ok : Nat → Prop} {t1 : Sl} {xs1 : List Int}
  (ho : Kd.R (Kd.int .i64) 3 w1 w0.heap.size ok (slv t1) xs1) (hb : Below w0.heap.size w0 w1) (hg : w.grownBy w1 (slv c.1).ownBlock) (hat : (slv t1).ownBlock = (slv c.1).ownBlock ∨ ∃ b, (slv t1).ownBlock = some b ∧ w.heap.size ≤ b) :
  PS w0 (w1.setCell ⟨gr, rs.length, none⟩ (slv t1)) gp f { g with rs := rs ++ [(t1, xs1)], oh := os ++ [t1] } := by
 have hq : (g.rs.map hv ++ [hv g.sp])[rs.length]? = some (slv c.1, c.2) := by
  rw [hr, List.map_append, List.append_assoc, List.getElem?_append_right (by simp)]
  simp [hv]
 have hmem : (slv c.1, c.2) ∈ g.rs.map hv ++ [hv g.sp] := List.mem_iff_getElem?.2 ⟨_, hq⟩
 have ty : ∀ {e : Nat}, e ≠ 3 → ∀ b, (slv c.1).ownBlock = some b → ∃ cells t, w.heap[b]? = some (.cells cells t (0, 0)) ∧ e ≠ t := fun he b hb => by
  obtain ⟨cells, t, h1, rfl⟩ := h.typed3 hmem b hb
  exact ⟨cells, _, h1, he⟩
 have blk : ∀ {b t : Nat} {cs : Array Value}, w.heap[b]? = some (.cells cs t (0, 0)) → t ≠ 3 → w1.heap[b]? = some (.cells cs t (0, 0)) := fun {b t cs} h1 ht => by
  refine (hg.block b (blk_lt h1) (fun e => ?_)).trans h1
  obtain ⟨cells, t', h2, h3⟩ := ty ht b e.symm
  rw [h1] at h2
  injection h2 with h2
  injection h2 with _ h2
  exact h3 h2
 have bp := blk h.bp (by decide)
 have f2 := fam_grown h.f2 hg (ty (by decide))
 have f24 := fam_grown h.f24 hg (ty (by decide))
 have mg := mg_grown h.mg k3_E hg (ty (by decide))
 have f3 := fam_grew (h1 := fun _ => rfl) h.f3 rs.length hq ho hg hat
 rw [show slv g.ro = .slice (some ⟨gr, 0, none⟩) g.rs.length cr from by rw [hro]; rfl] at f24
 have f24' := fam_wrote (h1 := slv_one) f24 0 rfl rs.length t1
 have hbase : w0.heap.size ≤ gr ∧ gr < w1.heap.size := f24.lt (List.mem_cons_self ..) rfl
 obtain ⟨cells24, h24⟩ := own_typed (f24.own _ (List.mem_cons_self ..)) gr rfl
 have keep : ∀ b, b < w1.heap.size → b ≠ gr → (w1.setCell ⟨gr, rs.length, none⟩ (slv t1)).heap[b]? = w1.heap[b]? := fun b hb hn =>
  ((Kept.refl w1 (fun k => k = gr)).setCell (p := ⟨gr, rs.length, none⟩) (.inl rfl) (slv t1)).2 b hb hn
 have n1 : gp ≠ gr := blk_ne bp h24 (by decide)
 refine ⟨hb.setCell (p := ⟨gr, rs.length, none⟩) hbase.1 _, (keep gp (blk_lt bp) n1).trans bp, h.gep, f2.far h24 (by decide) keep, ?_, ?_, ?_, h.pk⟩
 ·have h3 := f3.far h24 (by decide) keep
  rw [show (g.rs.map hv ++ [hv g.sp]).set rs.length (slv t1, xs1) = (rs ++ [(t1, xs1)]).map hv ++ [hv g.sp] from by
   rw [hr, List.map_append, List.append_assoc, List.set_append_right _ _ (by simp)]
   simp [hv]] at h3
  exact h3
 ·simp only [List.set_cons_zero] at f24'
  rw [show slv ({ g with rs := rs ++ [(t1, xs1)], oh := os ++ [t1] } : Gh).ro = .slice (some ⟨gr, 0, none⟩) g.rs.length cr from by show slv g.ro = _; rw [hro]; rfl]
  show Fam slv 24 _ _ [(_, os ++ [t1])]
  rw [hoh, List.set_append_right _ _ (by omega), hl, Nat.sub_self] at f24'
  exact f24'
 ·exact mg_grown mg k3_E (row := some gr) ⟨rfl, rfl, rfl, by simp, fun b hb hn => keep b hb (fun e => hn (by rw [e]))⟩ (fun b hb => by injection hb with hb; subst hb; exact ⟨_, _, h24, by decide⟩)
end
end Go.Proofs.YtamfkglnejhjdaaDoor.PlayState

