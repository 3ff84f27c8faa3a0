/- The play object in memory: its rows, its hand, its leaving, its picks, a view made. -/
import Derived.Test.YtamfkglnejhjdaaWWords
import Derived.Test.YtamfkglnejhjdaaWMore
import Derived.Test.YtamfkglnejhjdaaWKept
import Derived.Test.YtamfkglnejhjdaaPlayPure
import Derived.Test.YtamfkglnejhjdaaProg
import Derived.Test.YtamfkglnejhjdaaBaseA
import Derived.Deep.DeepCutAuto
namespace Go.Proofs.Ytamfkglnejhjdaa.Fam
open Go.RowKit Go.Proofs.YtamfkglnejhjdaaW.PrintWords

/-- Two values do not share a block. -/
def Ap (v u : Value) : Prop := v.ownBlock = none ∨ v.ownBlock ≠ u.ownBlock
theorem Ap.symm {v u : Value} (h : Ap v u) : Ap u v := by
  unfold Ap at *
  cases hu : u.ownBlock with
  | none => exact .inl rfl
  | some b =>
    refine .inr fun e => ?_
    rcases h with h | h
    · rw [h] at e; cases e
    · exact h (by rw [hu]; exact e.symm)
structure Fam {α : Type} (enc : α → Value) (e : Nat) (w : World) (base : Nat) (L : List (Value × List α)) : Prop where
  own : ∀ p, p ∈ L → w.ownsRow base e 1 p.1 p.2.length (encs enc p.2)
  apart : L.Pairwise (fun p q => Ap p.1 q.1)
section
variable {α : Type} {enc : α → Value} {e : Nat} {w w1 : World} {base : Nat} {L : List (Value × List α)} {v v1 : Value} {xs xs1 : List α} {i : Nat}
theorem Fam.nil (w : World) (base : Nat) : Fam enc e w base [] := ⟨(fun p h => by cases h), .nil⟩
theorem Fam.lt (h : Fam enc e w base L) {p : Value × List α} (hp : p ∈ L) {b : Nat} (hb : p.1.ownBlock = some b) : base ≤ b ∧ b < w.heap.size := ⟨own_base (h.own p hp) b hb, own_lt (h.own p hp) b hb⟩
theorem Fam.R {h1 : ∀ x : α, (enc x).oneCell' = true} (h : Fam enc e w base L) {p : Value × List α} (hp : p ∈ L) : (Kd.scalar enc h1).R e w base (fun b => p.1.ownBlock = some b) p.1 p.2 := Kd.R_of_own (h.own p hp) (fun _ hb => hb)
theorem Fam.moved (h : Fam enc e w base L) (hk : ∀ b, b < w.heap.size → (∃ p, p ∈ L ∧ p.1.ownBlock = some b) → w1.heap[b]? = w.heap[b]?) : Fam enc e w1 base L :=
  ⟨fun p hp => own_move (h.own p hp) (fun b hb => hk b (h.lt hp hb).2 ⟨p, hp, hb⟩), h.apart⟩
theorem Fam.below (h : Fam enc e w base L) (hb : Below w.heap.size w w1) : Fam enc e w1 base L := h.moved (fun b hlt _ => hb.block b hlt)
/-- A block of another type is written. -/
theorem Fam.far (h : Fam enc e w base L) {g t : Nat} {cells : Array Value} (hg : w.heap[g]? = some (.cells cells t (0, 0))) (ht : e ≠ t) (hk : ∀ b, b < w.heap.size → b ≠ g → w1.heap[b]? = w.heap[b]?) : Fam enc e w1 base L :=
  h.moved (fun b hlt ⟨p, hp, hb⟩ => hk b hlt (by
    rintro rfl
    obtain ⟨cells', hc⟩ := own_typed (h.own p hp) b hb
    rw [hg] at hc
    injection hc with hc
    injection hc with _ hc
    exact ht hc.symm))
theorem pairwise_set {α : Type} {R : α → α → Prop} (hs : ∀ a b, R a b → R b a) : ∀ (L : List α) (i : Nat) (x : α), L.Pairwise R → (∀ j y, j ≠ i → L[j]? = some y → R x y) → (L.set i x).Pairwise R
  | [], i, x, h, _ => by simp
  | a :: L, 0, x, h, hx => by
    rw [List.pairwise_cons] at h
    rw [List.set_cons_zero, List.pairwise_cons]
    exact ⟨fun y hy => by
      obtain ⟨j, hj⟩ := List.mem_iff_getElem?.1 hy
      exact hx (j + 1) y (by omega) (by simpa using hj), h.2⟩
  | a :: L, i + 1, x, h, hx => by
    rw [List.pairwise_cons] at h
    rw [List.set_cons_succ, List.pairwise_cons]
    refine ⟨fun y hy => ?_, pairwise_set hs L i x h.2 (fun j y hj hy => hx (j + 1) y (by omega) (by simpa using hy))⟩
    rcases List.mem_or_eq_of_mem_set hy with hy | rfl
    · exact h.1 y hy
    · exact hs _ _ (hx 0 a (by omega) rfl)
/-- Row i is written, or made anew; all else stays. -/
theorem Fam.put (h : Fam enc e w base L) (hi : L[i]? = some (v, xs)) (hown : w1.ownsRow base e 1 v1 xs1.length (encs enc xs1)) (hk : ∀ b, b < w.heap.size → v.ownBlock ≠ some b → w1.heap[b]? = w.heap[b]?)
    (hat : v1.ownBlock = v.ownBlock ∨ v1.ownBlock = none ∨ ∃ b, v1.ownBlock = some b ∧ w.heap.size ≤ b) : Fam enc e w1 base (L.set i (v1, xs1)) := by
  have hne : ∀ j y, j ≠ i → L[j]? = some y → Ap v y.1 := fun j y hj hy => by
    have hp := List.pairwise_iff_getElem.1 h.apart
    obtain ⟨hi1, hi2⟩ := List.getElem?_eq_some_iff.1 hi
    obtain ⟨hj1, hj2⟩ := List.getElem?_eq_some_iff.1 hy
    rcases Nat.lt_or_gt_of_ne hj with hlt | hlt
    · have := hp j i hj1 hi1 hlt
      rw [hi2, hj2] at this
      exact this.symm
    · have := hp i j hi1 hj1 hlt
      rw [hi2, hj2] at this
      exact this
  refine ⟨fun p hp => ?_, pairwise_set (fun _ _ h => h.symm) L i _ h.apart (fun j y hj hy => ?_)⟩
  · obtain ⟨j, hj⟩ := List.mem_iff_getElem?.1 hp
    by_cases e : i = j
    · subst e
      have hlt := (List.getElem?_eq_some_iff.1 hi).1
      rw [List.getElem?_set_self hlt] at hj
      injection hj with hj
      subst hj
      exact hown
    · rw [List.getElem?_set_ne e] at hj
      have hm : p ∈ L := List.mem_iff_getElem?.2 ⟨j, hj⟩
      refine own_move (h.own p hm) (fun b hb => hk b (h.lt hm hb).2 (fun e2 => ?_))
      rcases hne j p (Ne.symm e) hj with h1 | h1
      · rw [h1] at e2; cases e2
      · exact h1 (by rw [e2, hb])
  · have hm : y ∈ L := List.mem_iff_getElem?.2 ⟨j, hy⟩
    unfold Ap
    rcases hat with h1 | h1 | ⟨b, h1, h2⟩
    · rw [h1]; exact hne j y hj hy
    · exact .inl h1
    · refine .inr fun e2 => ?_
      rw [h1] at e2
      have := (h.lt hm e2.symm).2
      omega
/-- A row that is new. -/
theorem Fam.add (h : Fam enc e w base L) (hown : w1.ownsRow base e 1 v1 xs1.length (encs enc xs1)) (hk : ∀ b, b < w.heap.size → w1.heap[b]? = w.heap[b]?) (hat : ∀ b, v1.ownBlock = some b → w.heap.size ≤ b) : Fam enc e w1 base (L ++ [(v1, xs1)]) := by
  refine ⟨fun p hp => ?_, ?_⟩
  · rcases List.mem_append.1 hp with hp | hp
    · exact own_move (h.own p hp) (fun b hb => hk b (h.lt hp hb).2)
    · rw [List.mem_singleton] at hp
      subst hp
      exact hown
  · rw [List.pairwise_append]
    refine ⟨h.apart, by simp, fun a ha b hb => ?_⟩
    rw [List.mem_singleton] at hb
    subst hb
    unfold Ap
    cases hv : a.1.ownBlock with
    | none => exact .inl rfl
    | some g =>
      refine .inr fun e2 => ?_
      have h1 := (h.lt ha hv).2
      have h2 := hat g e2.symm
      omega
theorem Fam.two (h : Fam enc e w base (L ++ [(v, xs)])) (h1 : Fam enc e w base (L ++ [(v1, xs1)])) (hap : Ap v v1) : Fam enc e w base (L ++ [(v, xs), (v1, xs1)]) := by
  refine ⟨fun p hp => ?_, ?_⟩
  · simp only [List.mem_append, List.mem_cons, List.not_mem_nil, or_false] at hp
    rcases hp with hp | rfl | rfl
    · exact h.own p (by simp [hp])
    · exact h.own _ (by simp)
    · exact h1.own _ (by simp)
  · have a1 := List.pairwise_append.1 h.apart
    have a2 := List.pairwise_append.1 h1.apart
    rw [List.pairwise_append]
    refine ⟨a1.1, by simp [hap], fun a ha b hb => ?_⟩
    simp only [List.mem_cons, List.not_mem_nil, or_false] at hb
    rcases hb with rfl | rfl
    · exact a1.2.2 a ha _ (by simp)
    · exact a2.2.2 a ha _ (by simp)
end

end Go.Proofs.Ytamfkglnejhjdaa.Fam

namespace Go.Proofs.Ytamfkglnejhjdaa.PlayState
open Go.RowKit Go.Proofs.YtamfkglnejhjdaaW.PrintWords Go.Proofs.Ytamfkglnejhjdaa.Fam
set_option linter.unusedVariables false

/-- A slice's header. -/
abbrev Sl := Option Addr × Nat × Nat
def slv (t : Sl) : Value := .slice t.1 t.2.1 t.2.2
theorem slv_one (t : Sl) : (slv t).oneCell' = true := rfl
abbrev kSl : Kd Sl := Kd.scalar slv slv_one
/-- A row with its header. -/
abbrev Hd := Sl × List Int
def hv (h : Hd) : Value × List Int := (slv h.1, h.2)

/-- What stands in the play object and what is told. -/
structure Gh where
  vs : List Hd     -- the views
  ks : List Hd     -- the looks
  rs : List Hd     -- the rows, the root's first
  sp : Hd          -- the spawns
  vo : Sl
  ko : Sl
  ro : Sl
  mo : Sl
  po : Sl
  ps : List Int    -- the picks that are left
  ms : List (Int × Int × Int)   -- the merges
  oh : List Sl     -- the headers that the rows' outer row holds

abbrev k3 : Kd (Int × Int × Int) := Kd.pair (Kd.int .i64) (Kd.pair (Kd.int .i64) (Kd.int .i64))
/-- The cells of the play object; f: its four functions. -/
def cells (f : List Value) (g : Gh) : Array Value := (f ++ [slv g.vo, slv g.ro, slv g.sp.1, slv g.po, slv g.mo]).toArray
structure PS (w0 w : World) (gp gt : Nat) (f : List Value) (t0 : List Value) (g : Gh) : Prop where
  hb : Below w0.heap.size w0 w
  bp : w.heap[gp]? = some (.cells (cells f g) 64 (0, 0))
  gep : w0.heap.size ≤ gp
  bt : w.heap[gt]? = some (.cells (t0 ++ [slv g.ko]).toArray 39 (0, 0))
  get : w0.heap.size ≤ gt
  f2 : Fam (Value.int .i64) 2 w w0.heap.size (g.vs.map hv ++ g.ks.map hv)
  f3 : Fam (Value.int .i64) 3 w w0.heap.size (g.rs.map hv ++ [hv g.sp])
  f28 : Fam slv 28 w w0.heap.size [(slv g.vo, g.vs.map (·.1)), (slv g.ko, g.ks.map (·.1))]
  f24 : Fam slv 24 w w0.heap.size [(slv g.ro, g.oh)]
  mg : Kd.R k3 44 w w0.heap.size (fun _ => True) (slv g.mo) g.ms
  pk : Kd.C (Kd.int .i64) w0 g.po.1 g.ps.length g.ps ∧ g.po.2.1 = g.ps.length ∧ g.ps.length ≤ g.po.2.2
section
variable {w0 w w1 : World} {gp gt : Nat} {f t0 : List Value} {g : Gh}
theorem PS.below (h : PS w0 w gp gt f t0 g) (hb : Below w.heap.size w w1) : PS w0 w1 gp gt f t0 g :=
  ⟨below_step h.hb hb, blk_below h.bp hb, h.gep, blk_below h.bt hb, h.get, h.f2.below hb, h.f3.below hb, h.f28.below hb, h.f24.below hb, Kd.R_below h.mg hb, h.pk⟩
/-- The play object is written (no row is touched): block gp has another type than every row. -/
theorem PS.cellw (h : PS w0 w gp gt f t0 g) (i : Nat) (u : Value) {g2 : Gh} (hc : (cells f g).setIfInBounds i u = cells f g2) (hv1 : g2.vs = g.vs) (hk1 : g2.ks = g.ks) (hko : g2.ko = g.ko)
    (h3 : Fam (Value.int .i64) 3 w w0.heap.size (g2.rs.map hv ++ [hv g2.sp])) (h28 : Fam slv 28 w w0.heap.size [(slv g2.vo, g2.vs.map (·.1)), (slv g2.ko, g2.ks.map (·.1))]) (h24 : Fam slv 24 w w0.heap.size [(slv g2.ro, g2.oh)])
    (hm : Kd.R k3 44 w w0.heap.size (fun _ => True) (slv g2.mo) g2.ms) (hp : Kd.C (Kd.int .i64) w0 g2.po.1 g2.ps.length g2.ps ∧ g2.po.2.1 = g2.ps.length ∧ g2.ps.length ≤ g2.po.2.2) :
    PS w0 (w.setCell ⟨gp, i, none⟩ u) gp gt f t0 g2 := by
  have hk : ∀ b, b < w.heap.size → b ≠ gp → (w.setCell ⟨gp, i, none⟩ u).heap[b]? = w.heap[b]? := fun b _ hb => by
    exact (Kept.setCell (S := fun k => k = gp) (Kept.refl w _) (p := ⟨gp, i, none⟩) (.inl rfl) u).2 b (by assumption) hb
  have hne : gt ≠ gp := blk_ne h.bt h.bp (by decide)
  exact ⟨h.hb.setCell (p := ⟨gp, i, none⟩) h.gep _, blk_put h.bp i u hc, h.gep, by rw [hko]; exact blk_far h.bt hne _, h.get,
    by rw [hv1, hk1]; exact h.f2.far h.bp (by decide) hk, h3.far h.bp (by decide) hk, h28.far h.bp (by decide) hk, h24.far h.bp (by decide) hk, Kd.R_mono (Kd.R_kept (S := fun k => k = gp) (Kd.R_types hm h.bp (fun q hq => by
      have : q = 44 := by simpa [Kd.int, Kd.scalar, Kd.pair] using hq
      omega)) ((Kept.refl w (fun k => k = gp)).setCell (p := ⟨gp, i, none⟩) (.inl rfl) u) (fun k hk e => hk.2 e)) (fun k hk => hk.1), hp⟩
end
theorem fam_at {α : Type} {enc : α → Value} {e : Nat} {h1 : ∀ x : α, (enc x).oneCell' = true} {w : World} {base : Nat} {L : List (Value × List α)} {v : Value} {xs : List α} (h : Fam enc e w base L) (i : Nat) (hq : L[i]? = some (v, xs)) (d : α) (j : Nat) (hj : j < xs.length) :
    ∃ g c, v = .slice (some ⟨g, 0, none⟩) xs.length c ∧ w.cell? ⟨g, j, none⟩ = some (enc (xs.getD j d)) ∧ w.frozen? ⟨g, j, none⟩ = false := by
  have hr := Fam.R (h1 := h1) h (List.mem_iff_getElem?.2 ⟨i, hq⟩)
  obtain ⟨g, c, e1, _, _, _, _⟩ := Kd.R_form hr (by show 0 < xs.length; omega)
  replace e1 : v = .slice (some ⟨g, 0, none⟩) xs.length c := e1
  subst e1
  obtain ⟨hx, hf⟩ := Kd.R_celln d hr (j : Int) (by omega) (by omega)
  rw [Int.toNat_natCast] at hx hf
  exact ⟨g, c, rfl, by rw [hx]; simp [rdOf], hf⟩
theorem slv_form {t : Sl} {g n c : Nat} (h : slv t = .slice (some ⟨g, 0, none⟩) n c) : t = (some ⟨g, 0, none⟩, n, c) := by
  obtain ⟨a, b, d⟩ := t
  injection h with h1 h2 h3
  simp_all
end Go.Proofs.Ytamfkglnejhjdaa.PlayState

namespace Go.Proofs.Ytamfkglnejhjdaa.PlayState
open Go.RowKit Go.Proofs.YtamfkglnejhjdaaW.PrintWords Go.Proofs.YtamfkglnejhjdaaW.PrintLast Go.Proofs.YtamfkglnejhjdaaW.PrintMore Go.Proofs.Ytamfkglnejhjdaa.Fam
set_option linter.unusedSimpArgs false
set_option linter.unusedVariables false

def H36 : Bool × List (List Nat × List Nat) := (true, [([], []), ([0], [0]), ([1], [1]), ([2], [2]), ([], []), ([4], [4]), ([5], [5]), ([6], [6]), ([7], [7]), ([8], [8]), ([3, 9], [3, 9]), ([10], [10]), ([11, 0, 1, 2, 3, 4, 5, 6, 7, 8, 9, 10, 11], [11])])
def H36B : List Nat := [0, 1, 3, 7, 0, 16, 48, 112, 240, 496, 1023, 2047, 4095]
theorem H36_tab : rtab .any (opsOf Try.f36 1) = H36 := by kernel_rfl
theorem H36_bits : waitsOk H36.2 H36B = true := by kernel_rfl

/-- The last row, as it lies. -/
theorem last_row {w0 w : World} {gp gt : Nat} {f t0 : List Value} {g : Gh} (h : PS w0 w gp gt f t0 g) (hf : f.length = 4) (hoh : g.oh = g.rs.map (·.1)) {rs : List Hd} {c : Hd} (hr : g.rs = rs ++ [c]) (hc : 0 < c.2.length) :
    ∃ gr cr gi ci, g.ro = (some ⟨gr, 0, none⟩, g.rs.length, cr) ∧ c.1 = (some ⟨gi, 0, none⟩, c.2.length, ci) ∧
      w.cell? ⟨gp, 5, none⟩ = some (.slice (some ⟨gr, 0, none⟩) g.rs.length cr) ∧ w.cell? ⟨gr, g.rs.length - 1, none⟩ = some (.slice (some ⟨gi, 0, none⟩) c.2.length ci) ∧
      w.cell? ⟨gi, c.2.length - 1, none⟩ = some (.int .i64 (c.2.getD (c.2.length - 1) 0)) := by
  have hf24 := h.f24
  rw [hoh] at hf24
  obtain ⟨gr, cr, e1, hx1, _⟩ := fam_at (h1 := slv_one) hf24 0 rfl (none, 0, 0) (g.rs.length - 1) (by rw [hr]; simp)
  obtain ⟨gi, ci, e2, hx2, _⟩ := fam_at (h1 := fun _ => rfl) h.f3 rs.length (v := slv c.1) (xs := c.2) (by rw [hr]; simp [hv]) 0 (c.2.length - 1) (by omega)
  have e1' := slv_form e1
  have e2' := slv_form e2
  rw [List.length_map] at e1'
  refine ⟨gr, cr, gi, ci, e1', e2', ?_, ?_, hx2⟩
  · have hb := (blk_cell h.bp 5)
    rw [hb]
    obtain ⟨a, b, c', d, rfl⟩ : ∃ a b c' d, f = [a, b, c', d] := by
      match f, hf with
      | [a, b, c', d], _ => exact ⟨a, b, c', d, rfl⟩
    show some (slv g.ro) = _
    rw [e1']
    rfl
  · rw [hx1]
    have : (g.rs.map (·.1)).getD (g.rs.length - 1) (none, 0, 0) = c.1 := by rw [hr]; simp
    rw [this, e2']
    rfl
set_option maxHeartbeats 4000000 in
set_option maxRecDepth 100000 in
theorem hand_walk (gp gr gi k j cr ci : Nat) (y : Int) (w : World) (hn2 : k ≤ 4194304) (hm2 : j ≤ 4194304)
    (hx5 : w.cell? ⟨gp, 5, none⟩ = some (.slice (some ⟨gr, 0, none⟩) (k + 1) cr)) (hxr : w.cell? ⟨gr, k, none⟩ = some (.slice (some ⟨gi, 0, none⟩) (j + 1) ci)) (hxi : w.cell? ⟨gi, j, none⟩ = some (.int .i64 y)) :
    Calls Try.prog 36 #[.pointer (some ⟨gp, 0, none⟩)] w fun e w' => e = .returned (.int .i64 y) ∧ Drawn0 w w' := by
  have hn3 : (k : Int) ≤ 4194304 := by omega
  have hm3 : (j : Int) ≤ 4194304 := by omega
  have HP2 := Aside0.mk (show w.drew.cell? ⟨gi, j, none⟩ = some (.int .i64 y) from hxi)
  have hw1 : wrap64 ((k : Int) + 1 - 1) = (k : Int) := by rw [BitMath.wrap_id (by unfold BitMath.In64; omega)]; omega
  have hw3 : wrap64 (k : Int) = (k : Int) := BitMath.wrap_id (by unfold BitMath.In64; omega)
  have hw2 : wrap64 ((j : Int) + 1 - 1) = (j : Int) := by rw [BitMath.wrap_id (by unfold BitMath.In64; omega)]; omega
  have hw4 : wrap64 (j : Int) = (j : Int) := BitMath.wrap_id (by unfold BitMath.In64; omega)
  have l1 : ((k : Int) < (k : Int) + 1) = True := eq_true (by omega)
  have l2 : ((j : Int) < (j : Int) + 1) = True := eq_true (by omega)
  have HDr := Aside0.mk (show Drawn0 w w.drew from ⟨⟨1, rfl⟩⟩)
  clear hxi
  go_enter Try.func36, Try.ntmps36
  go_upto_region 1 with fail
  refine start_ (n := 13) (S := (fun w' => w'.cell? ⟨gp, 5, none⟩ = some (.slice (some ⟨gr, 0, none⟩) (k + 1) cr) ∧ w'.cell? ⟨gr, k, none⟩ = some (.slice (some ⟨gi, 0, none⟩) (j + 1) ci))) (ds := [12]) #[false, false, false, false, false, false, false, false, false, false, false, false, false] (by kernel_rfl) rfl rfl ⟨hx5, hxr⟩ (fun hHeld => ?_); refine with_tabW H36_tab H36_bits (fun HT_ HW_ => ?_)
  generalize w.drew = w2 at HP2 HDr hHeld ⊢
  refine pure_ (i := 0) (N := some 4) (v := ?_) (a' := ?_) #[true, false, false, false, false, false, false, false, false, false, false, false, false] rfl rfl (any_of HT_.out (by kernel_rfl)) (fun _ _ _ h => h) (Or.inl ⟨by rfl, ?_⟩) ?_ ?_
  rotate_left
  · intro w'
    go_simp
    with_reducible rfl
  rotate_left
  · simp only [Act.put, List.setIfInBounds_toArray, List.set_cons_zero, List.set_cons_succ, i64_w, i32_w]
    rfl
  refine pure_ (i := 1) (N := some 5) (v := ?_) (a' := ?_) #[true, true, false, false, false, false, false, false, false, false, false, false, false] rfl rfl (any_of HT_.out (by kernel_rfl)) (fun _ _ _ h => h) (Or.inl ⟨by rfl, ?_⟩) ?_ ?_
  rotate_left
  · intro w'
    go_simp
    with_reducible rfl
  rotate_left
  · simp only [Act.put, List.setIfInBounds_toArray, List.set_cons_zero, List.set_cons_succ, i64_w, i32_w]
    rfl
  refine pure_ (i := 2) (N := some 6) (v := ?_) (a' := ?_) #[true, true, true, false, false, false, false, false, false, false, false, false, false] rfl rfl (any_of HT_.out (by kernel_rfl)) (fun _ _ _ h => h) (Or.inl ⟨by rfl, ?_⟩) ?_ ?_
  rotate_left
  · intro w'
    go_simp
    with_reducible rfl
  rotate_left
  · simp only [Act.put, List.setIfInBounds_toArray, List.set_cons_zero, List.set_cons_succ, i64_w, i32_w]
    rfl
  refine take_ (i := 3) (N := some 7) (v := ?_) (a' := ?_) #[true, true, true, true, false, false, false, false, false, false, false, false, false] rfl rfl (take_ofW HT_.out HW_.out (by kernel_rfl)) (fun _ _ _ h => h) (Or.inl ⟨by rfl, ?_⟩) hHeld ?_ ?_
  rotate_left
  · rintro w' ⟨s0, s1⟩
    go_simp
    with_reducible rfl
  rotate_left
  · simp only [Act.put, List.setIfInBounds_toArray, List.set_cons_zero, List.set_cons_succ, i64_w, i32_w]
    rfl
  refine pure_ (i := 4) (N := some 8) (v := ?_) (a' := ?_) #[true, true, true, true, true, false, false, false, false, false, false, false, false] rfl rfl (any_of HT_.out (by kernel_rfl)) (fun _ _ _ h => h) (Or.inl ⟨by rfl, ?_⟩) ?_ ?_
  rotate_left
  · intro w'
    go_simp
    with_reducible rfl
  rotate_left
  · simp only [Act.put, List.setIfInBounds_toArray, List.set_cons_zero, List.set_cons_succ, i64_w, i32_w]
    rfl
  refine pure_ (i := 5) (N := some 9) (v := ?_) (a' := ?_) #[true, true, true, true, true, true, false, false, false, false, false, false, false] rfl rfl (any_of HT_.out (by kernel_rfl)) (fun _ _ _ h => h) (Or.inl ⟨by rfl, ?_⟩) ?_ ?_
  rotate_left
  · intro w'
    go_simp
    with_reducible rfl
  rotate_left
  · simp only [Act.put, List.setIfInBounds_toArray, List.set_cons_zero, List.set_cons_succ, i64_w, i32_w]
    rfl
  refine pure_ (i := 6) (N := some 10) (v := ?_) (a' := ?_) #[true, true, true, true, true, true, true, false, false, false, false, false, false] rfl rfl (any_of HT_.out (by kernel_rfl)) (fun _ _ _ h => h) (Or.inl ⟨by rfl, ?_⟩) ?_ ?_
  rotate_left
  · intro w'
    go_simp
    with_reducible rfl
  rotate_left
  · simp only [Act.put, List.setIfInBounds_toArray, List.set_cons_zero, List.set_cons_succ, i64_w, i32_w]
    rfl
  refine take_ (i := 7) (N := some 11) (v := ?_) (a' := ?_) #[true, true, true, true, true, true, true, true, false, false, false, false, false] rfl rfl (take_ofW HT_.out HW_.out (by kernel_rfl)) (fun _ _ _ h => h) (Or.inl ⟨by rfl, ?_⟩) hHeld ?_ ?_
  rotate_left
  · rintro w' ⟨s0, s1⟩
    go_simp
    with_reducible rfl
  rotate_left
  · simp only [Act.put, List.setIfInBounds_toArray, List.set_cons_zero, List.set_cons_succ, i64_w, i32_w]
    rfl
  refine pure_ (i := 8) (N := some 12) (v := ?_) (a' := ?_) #[true, true, true, true, true, true, true, true, true, false, false, false, false] rfl rfl (any_of HT_.out (by kernel_rfl)) (fun _ _ _ h => h) (Or.inl ⟨by rfl, ?_⟩) ?_ ?_
  rotate_left
  · intro w'
    go_simp
    with_reducible rfl
  rotate_left
  · simp only [Act.put, List.setIfInBounds_toArray, List.set_cons_zero, List.set_cons_succ, i64_w, i32_w]
    rfl
  refine pure_ (i := 9) (N := some 13) (v := ?_) (a' := ?_) #[true, true, true, true, true, true, true, true, true, true, false, false, false] rfl rfl (any_of HT_.out (by kernel_rfl)) (fun _ _ _ h => h) (Or.inl ⟨by rfl, ?_⟩) ?_ ?_
  rotate_left
  · intro w'
    go_simp
    with_reducible rfl
  rotate_left
  · simp only [Act.put, List.setIfInBounds_toArray, List.set_cons_zero, List.set_cons_succ, i64_w, i32_w]
    rfl
  refine pure_ (i := 10) (N := some 14) (v := ?_) (a' := ?_) #[true, true, true, true, true, true, true, true, true, true, true, false, false] rfl rfl (any_of HT_.out (by kernel_rfl)) (fun _ _ _ h => h) (Or.inl ⟨by rfl, ?_⟩) ?_ ?_
  rotate_left
  · intro w'
    go_simp
    with_reducible rfl
  rotate_left
  · simp only [Act.put, List.setIfInBounds_toArray, List.set_cons_zero, List.set_cons_succ, i64_w, i32_w]
    rfl
  refine take_ (i := 11) (N := some 15) (v := ?_) (a' := ?_) #[true, true, true, true, true, true, true, true, true, true, true, true, false] rfl rfl (take_ofW HT_.out HW_.out (by kernel_rfl)) (fun _ _ _ h => h) (Or.inl ⟨by rfl, ?_⟩) hHeld ?_ ?_
  rotate_left
  · rintro w' ⟨s0, s1⟩
    go_simp
    with_reducible rfl
  rotate_left
  · simp only [Act.put, List.setIfInBounds_toArray, List.set_cons_zero, List.set_cons_succ, i64_w, i32_w]
    rfl
  refine pure_ (i := 12) (N := some 3) (v := ?_) (a' := ?_) #[true, true, true, true, true, true, true, true, true, true, true, true, true] rfl rfl (any_of HT_.out (by kernel_rfl)) (fun _ _ _ h => h) (Or.inl ⟨by rfl, ?_⟩) ?_ ?_
  rotate_left
  · intro w'
    go_simp
    with_reducible rfl
  rotate_left
  · simp only [Act.put, List.setIfInBounds_toArray, List.set_cons_zero, List.set_cons_succ, i64_w, i32_w]
    rfl
  refine done_ (done_of HT_.out (by kernel_rfl)) ?_
  clear HT_ HW_ hHeld

  have hxi := HP2.out
  go_wp2
  go_ret
  exact ⟨rfl, HDr.out⟩
/-- The hand of a play. -/
theorem hand_calls {w0 w : World} {gp gt : Nat} {f t0 : List Value} {g : Gh} (h : PS w0 w gp gt f t0 g) (hf : f.length = 4) (hoh : g.oh = g.rs.map (·.1)) {rs : List Hd} {c : Hd} (hr : g.rs = rs ++ [c]) (hc : 0 < c.2.length) (hc2 : c.2.length ≤ 4194304) (hl : g.rs.length ≤ 4194304) :
    Calls Try.prog 36 #[.pointer (some ⟨gp, 0, none⟩)] w fun e w' => e = .returned (.int .i64 (c.2.getD (c.2.length - 1) 0)) ∧ Drawn0 w w' := by
  obtain ⟨gr, cr, gi, ci, _, _, h1, h2, h3⟩ := last_row h hf hoh hr hc
  have hp : 0 < g.rs.length := by rw [hr]; simp
  rw [show g.rs.length = (g.rs.length - 1) + 1 from by omega] at h1
  rw [show c.2.length = (c.2.length - 1) + 1 from by omega] at h2
  exact hand_walk gp gr gi (g.rs.length - 1) (c.2.length - 1) cr ci _ w (by omega) (by omega) h1 h2 h3
end Go.Proofs.Ytamfkglnejhjdaa.PlayState

namespace Go.Proofs.Ytamfkglnejhjdaa.PlayState
open Go.RowKit Go.Proofs.YtamfkglnejhjdaaW.PrintWords Go.Proofs.YtamfkglnejhjdaaW.PrintLast Go.Proofs.YtamfkglnejhjdaaW.PrintMore Go.Proofs.Ytamfkglnejhjdaa.Fam
set_option linter.unusedSimpArgs false
set_option linter.unusedVariables false

def L38 : Bool × List (List Nat × List Nat) := (true, [([], []), ([], []), ([1], [1]), ([2], [2]), ([3], [3]), ([], []), ([5], [5]), ([6], [6]), ([7], [7]), ([8], [8]), ([9], [9]), ([4, 10], [4, 10]), ([0, 0, 1, 2, 3, 4, 5, 6, 7, 8, 9, 10, 11], [0]), ([12, 0, 1, 2, 3, 4, 5, 6, 7, 8, 9, 10, 11], [12]), ([13, 11, 0, 1, 2, 3, 4, 5, 6, 7, 8, 9, 10, 11], [11, 13])])
def L38B : List Nat := [0, 0, 2, 6, 14, 0, 32, 96, 224, 480, 992, 2046, 4095, 8191, 16383]
theorem L38_tab : rtab .any (opsOf Try.f38 0) = L38 := by kernel_rfl
theorem L38_bits : waitsOk L38.2 L38B = true := by kernel_rfl

set_option maxHeartbeats 4000000 in
set_option maxRecDepth 100000 in
theorem leave_walk (gp gr k cr : Nat) (w : World) (hn2 : k ≤ 4194304) (hk : k ≤ cr)
    (hx5 : w.cell? ⟨gp, 5, none⟩ = some (.slice (some ⟨gr, 0, none⟩) (k + 1) cr)) (hf : w.frozen? ⟨gp, 5, none⟩ = false) :
    Calls Try.prog 38 #[.pointer (some ⟨gp, 0, none⟩)] w fun e w' => e = .returned (.tuple #[]) ∧ ∃ w2, Drawn0 w w2 ∧ w' = w2.setCell ⟨gp, 5, none⟩ (.slice (some ⟨gr, 0, none⟩) k cr) := by
  have hn3 : (k : Int) ≤ 4194304 := by omega
  have hw1 : wrap64 ((k : Int) + 1 - 1) = (k : Int) := by rw [BitMath.wrap_id (by unfold BitMath.In64; omega)]; omega
  have hw3 : wrap64 (k : Int) = (k : Int) := BitMath.wrap_id (by unfold BitMath.In64; omega)
  have l1 : (k ≤ cr) = True := eq_true hk
  have HF := Aside0.mk (show w.drew.frozen? ⟨gp, 5, none⟩ = false from hf)
  have HDr := Aside0.mk (show Drawn0 w w.drew from ⟨⟨1, rfl⟩⟩)
  clear hf
  go_enter Try.func38, Try.ntmps38
  refine start_ (n := 15) (S := (fun w' => w'.cell? ⟨gp, 5, none⟩ = some (.slice (some ⟨gr, 0, none⟩) (k + 1) cr))) (ds := [14]) #[false, false, false, false, false, false, false, false, false, false, false, false, false, false, false] (by kernel_rfl) rfl rfl hx5 (fun hHeld => ?_); refine with_tabW L38_tab L38_bits (fun HT_ HW_ => ?_)
  generalize w.drew = w2 at HF HDr hHeld ⊢
  refine pure_ (i := 0) (N := some 2) (v := ?_) (a' := ?_) #[true, false, false, false, false, false, false, false, false, false, false, false, false, false, false] rfl rfl (any_of HT_.out (by kernel_rfl)) (fun _ _ _ h => h) (Or.inl ⟨by rfl, ?_⟩) ?_ ?_
  rotate_left
  · intro w'
    go_simp
    with_reducible rfl
  rotate_left
  · simp only [Act.put, List.setIfInBounds_toArray, List.set_cons_zero, List.set_cons_succ, i64_w, i32_w]
    rfl
  refine pure_ (i := 1) (N := some 3) (v := ?_) (a' := ?_) #[true, true, false, false, false, false, false, false, false, false, false, false, false, false, false] rfl rfl (any_of HT_.out (by kernel_rfl)) (fun _ _ _ h => h) (Or.inl ⟨by rfl, ?_⟩) ?_ ?_
  rotate_left
  · intro w'
    go_simp
    with_reducible rfl
  rotate_left
  · simp only [Act.put, List.setIfInBounds_toArray, List.set_cons_zero, List.set_cons_succ, i64_w, i32_w]
    rfl
  refine pure_ (i := 2) (N := some 4) (v := ?_) (a' := ?_) #[true, true, true, false, false, false, false, false, false, false, false, false, false, false, false] rfl rfl (any_of HT_.out (by kernel_rfl)) (fun _ _ _ h => h) (Or.inl ⟨by rfl, ?_⟩) ?_ ?_
  rotate_left
  · intro w'
    go_simp
    with_reducible rfl
  rotate_left
  · simp only [Act.put, List.setIfInBounds_toArray, List.set_cons_zero, List.set_cons_succ, i64_w, i32_w]
    rfl
  refine pure_ (i := 3) (N := some 5) (v := ?_) (a' := ?_) #[true, true, true, true, false, false, false, false, false, false, false, false, false, false, false] rfl rfl (any_of HT_.out (by kernel_rfl)) (fun _ _ _ h => h) (Or.inl ⟨by rfl, ?_⟩) ?_ ?_
  rotate_left
  · intro w'
    go_simp
    with_reducible rfl
  rotate_left
  · simp only [Act.put, List.setIfInBounds_toArray, List.set_cons_zero, List.set_cons_succ, i64_w, i32_w]
    rfl
  refine take_ (i := 4) (N := some 6) (v := ?_) (a' := ?_) #[true, true, true, true, true, false, false, false, false, false, false, false, false, false, false] rfl rfl (take_ofW HT_.out HW_.out (by kernel_rfl)) (fun _ _ _ h => h) (Or.inl ⟨by rfl, ?_⟩) hHeld ?_ ?_
  rotate_left
  · rintro w' s0
    go_simp
    with_reducible rfl
  rotate_left
  · simp only [Act.put, List.setIfInBounds_toArray, List.set_cons_zero, List.set_cons_succ, i64_w, i32_w]
    rfl
  refine pure_ (i := 5) (N := some 7) (v := ?_) (a' := ?_) #[true, true, true, true, true, true, false, false, false, false, false, false, false, false, false] rfl rfl (any_of HT_.out (by kernel_rfl)) (fun _ _ _ h => h) (Or.inl ⟨by rfl, ?_⟩) ?_ ?_
  rotate_left
  · intro w'
    go_simp
    with_reducible rfl
  rotate_left
  · simp only [Act.put, List.setIfInBounds_toArray, List.set_cons_zero, List.set_cons_succ, i64_w, i32_w]
    rfl
  refine pure_ (i := 6) (N := some 8) (v := ?_) (a' := ?_) #[true, true, true, true, true, true, true, false, false, false, false, false, false, false, false] rfl rfl (any_of HT_.out (by kernel_rfl)) (fun _ _ _ h => h) (Or.inl ⟨by rfl, ?_⟩) ?_ ?_
  rotate_left
  · intro w'
    go_simp
    with_reducible rfl
  rotate_left
  · simp only [Act.put, List.setIfInBounds_toArray, List.set_cons_zero, List.set_cons_succ, i64_w, i32_w]
    rfl
  refine pure_ (i := 7) (N := some 9) (v := ?_) (a' := ?_) #[true, true, true, true, true, true, true, true, false, false, false, false, false, false, false] rfl rfl (any_of HT_.out (by kernel_rfl)) (fun _ _ _ h => h) (Or.inl ⟨by rfl, ?_⟩) ?_ ?_
  rotate_left
  · intro w'
    go_simp
    with_reducible rfl
  rotate_left
  · simp only [Act.put, List.setIfInBounds_toArray, List.set_cons_zero, List.set_cons_succ, i64_w, i32_w]
    rfl
  refine take_ (i := 8) (N := some 10) (v := ?_) (a' := ?_) #[true, true, true, true, true, true, true, true, true, false, false, false, false, false, false] rfl rfl (take_ofW HT_.out HW_.out (by kernel_rfl)) (fun _ _ _ h => h) (Or.inl ⟨by rfl, ?_⟩) hHeld ?_ ?_
  rotate_left
  · rintro w' s0
    go_simp
    with_reducible rfl
  rotate_left
  · simp only [Act.put, List.setIfInBounds_toArray, List.set_cons_zero, List.set_cons_succ, i64_w, i32_w]
    rfl
  refine pure_ (i := 9) (N := some 11) (v := ?_) (a' := ?_) #[true, true, true, true, true, true, true, true, true, true, false, false, false, false, false] rfl rfl (any_of HT_.out (by kernel_rfl)) (fun _ _ _ h => h) (Or.inl ⟨by rfl, ?_⟩) ?_ ?_
  rotate_left
  · intro w'
    go_simp
    with_reducible rfl
  rotate_left
  · simp only [Act.put, List.setIfInBounds_toArray, List.set_cons_zero, List.set_cons_succ, i64_w, i32_w]
    rfl
  refine pure_ (i := 10) (N := some 12) (v := ?_) (a' := ?_) #[true, true, true, true, true, true, true, true, true, true, true, false, false, false, false] rfl rfl (any_of HT_.out (by kernel_rfl)) (fun _ _ _ h => h) (Or.inl ⟨by rfl, ?_⟩) ?_ ?_
  rotate_left
  · intro w'
    go_simp
    with_reducible rfl
  rotate_left
  · simp only [Act.put, List.setIfInBounds_toArray, List.set_cons_zero, List.set_cons_succ, i64_w, i32_w]
    rfl
  refine pure_ (i := 11) (N := some 13) (v := ?_) (a' := ?_) #[true, true, true, true, true, true, true, true, true, true, true, true, false, false, false] rfl rfl (any_of HT_.out (by kernel_rfl)) (fun _ _ _ h => h) (Or.inl ⟨by rfl, ?_⟩) ?_ ?_
  rotate_left
  · intro w'
    go_simp
    with_reducible rfl
  rotate_left
  · simp only [Act.put, List.setIfInBounds_toArray, List.set_cons_zero, List.set_cons_succ, i64_w, i32_w]
    rfl
  refine pure_ (i := 12) (N := some 14) (v := ?_) (a' := ?_) #[true, true, true, true, true, true, true, true, true, true, true, true, true, false, false] rfl rfl (any_of HT_.out (by kernel_rfl)) (fun _ _ _ h => h) (Or.inl ⟨by rfl, ?_⟩) ?_ ?_
  rotate_left
  · intro w'
    go_simp
    with_reducible rfl
  rotate_left
  · simp only [Act.put, List.setIfInBounds_toArray, List.set_cons_zero, List.set_cons_succ, i64_w, i32_w]
    rfl
  refine pure_ (i := 13) (N := some 15) (v := ?_) (a' := ?_) #[true, true, true, true, true, true, true, true, true, true, true, true, true, true, false] rfl rfl (any_of HT_.out (by kernel_rfl)) (fun _ _ _ h => h) (Or.inl ⟨by rfl, ?_⟩) ?_ ?_
  rotate_left
  · intro w'
    go_simp
    with_reducible rfl
  rotate_left
  · simp only [Act.put, List.setIfInBounds_toArray, List.set_cons_zero, List.set_cons_succ, i64_w, i32_w]
    rfl
  have hf := HF.out
  refine last_ (i := 14) (N := none) #[true, true, true, true, true, true, true, true, true, true, true, true, true, true, true] rfl rfl (one_of HT_.out (by kernel_rfl)) (by decide) (fun K hK => ?_)
  refine skip_ (w1 := ?_) (by rfl) rfl ?_ ?_
  rotate_left
  · go_simp
    rfl
  refine hK.out _ _ ?_
  clear hK K
  refine done_ (done_of HT_.out (by kernel_rfl)) ?_
  clear HT_ HW_ hHeld

  go_wp2
  go_end0
  exact ⟨rfl, _, HDr.out, rfl⟩

/-- The cells of the play object. -/
theorem PS.cell {w0 w : World} {gp gt : Nat} {f t0 : List Value} {g : Gh} (h : PS w0 w gp gt f t0 g) (hf : f.length = 4) :
    w.cell? ⟨gp, 4, none⟩ = some (slv g.vo) ∧ w.cell? ⟨gp, 5, none⟩ = some (slv g.ro) ∧ w.cell? ⟨gp, 6, none⟩ = some (slv g.sp.1) ∧ w.cell? ⟨gp, 7, none⟩ = some (slv g.po) ∧ w.cell? ⟨gp, 8, none⟩ = some (slv g.mo) := by
  obtain ⟨a, b, c', d, rfl⟩ : ∃ a b c' d, f = [a, b, c', d] := by
    match f, hf with
    | [a, b, c', d], _ => exact ⟨a, b, c', d, rfl⟩
  exact ⟨(blk_cell h.bp 4).trans rfl, (blk_cell h.bp 5).trans rfl, (blk_cell h.bp 6).trans rfl, (blk_cell h.bp 7).trans rfl, (blk_cell h.bp 8).trans rfl⟩
theorem fam_less {α : Type} {enc : α → Value} {e : Nat} {w : World} {base : Nat} {L L2 : List (Value × List α)} (h : Fam enc e w base L) (hs : L2.Sublist L) : Fam enc e w base L2 :=
  ⟨fun p hp => h.own p (hs.subset hp), h.apart.sublist hs⟩
/-- One row's header is cut: it holds the first m elements. -/
theorem fam_take {α : Type} {enc : α → Value} {e : Nat} {w : World} {base : Nat} {A : Option Addr} {n c : Nat} {xs : List α} (h : Fam enc e w base [(.slice A n c, xs)]) (m : Nat) (hm : m ≤ n) (hn : n = xs.length) : Fam enc e w base [(.slice A m c, xs.take m)] := by
  refine ⟨fun p hp => ?_, by simp⟩
  rw [List.mem_singleton] at hp
  subst hp
  have h1 := h.own _ (List.mem_singleton.2 rfl)
  simp only at h1
  rw [← hn] at h1
  have h2 := own_take h1 hm
  have e1 : (encs enc xs).take (m * 1) = encs enc (xs.take m) := by simp [encs, List.map_take]
  rw [e1] at h2
  show World.ownsRow w base e 1 (.slice A m c) (xs.take m).length (encs enc (xs.take m))
  rw [List.length_take, Nat.min_eq_left (by omega)]
  exact h2
theorem leave_calls {w0 w : World} {gp gt : Nat} {f t0 : List Value} {g : Gh} (h : PS w0 w gp gt f t0 g) (hf : f.length = 4) (hoh : g.oh = g.rs.map (·.1)) {rs : List Hd} {c : Hd} (hr : g.rs = rs ++ [c]) (hl : g.rs.length ≤ 4194304) :
    Calls Try.prog 38 #[.pointer (some ⟨gp, 0, none⟩)] w fun e w' => e = .returned (.tuple #[]) ∧ ∃ ro, PS w0 w' gp gt f t0 { g with rs := rs, ro := ro, oh := rs.map (·.1) } := by
  have hf24 := h.f24
  rw [hoh] at hf24
  have hlen : g.rs.length = rs.length + 1 := by rw [hr]; simp
  obtain ⟨gr, cr, e1, _, _⟩ := fam_at (h1 := slv_one) hf24 0 rfl (none, 0, 0) (g.rs.length - 1) (by rw [List.length_map]; omega)
  have e1' := slv_form e1
  rw [List.length_map] at e1'
  have hx := (h.cell hf).2.1
  rw [e1'] at hx
  have hc : g.rs.length ≤ cr := by
    have h1 := Fam.R (h1 := slv_one) hf24 (List.mem_singleton.2 rfl)
    rw [show (slv g.ro, g.rs.map (·.1)).1 = .slice (some ⟨gr, 0, none⟩) g.rs.length cr from by rw [e1']; rfl] at h1
    exact (Kd.R_reads' h1).2.1
  have hx2 : w.cell? ⟨gp, 5, none⟩ = some (.slice (some ⟨gr, 0, none⟩) (rs.length + 1) cr) := by rw [hx, hlen]; rfl
  refine (leave_walk gp gr rs.length cr w (by omega) (by omega) hx2 (blk_frozen h.bp 5)).mono ?_
  rintro e w' ⟨rfl, w2, hd, rfl⟩
  have h2 := h.below hd.below
  refine ⟨rfl, (some ⟨gr, 0, none⟩, rs.length, cr), ?_⟩
  refine h2.cellw 5 _ (g2 := { g with rs := rs, ro := (some ⟨gr, 0, none⟩, rs.length, cr), oh := rs.map (·.1) }) ?_ rfl rfl rfl ?_ h2.f28 ?_ h2.mg h2.pk
  · obtain ⟨a, b, c', d, rfl⟩ : ∃ a b c' d, f = [a, b, c', d] := by
      match f, hf with
      | [a, b, c', d], _ => exact ⟨a, b, c', d, rfl⟩
    rfl
  · refine fam_less h2.f3 ?_
    rw [hr, List.map_append, List.append_assoc]
    exact List.Sublist.append_left (List.sublist_cons_self _ _) _
  · have h3 := h2.f24
    rw [hoh, e1'] at h3
    have h4 := fam_take (A := some ⟨gr, 0, none⟩) (n := g.rs.length) (c := cr) h3 rs.length (by omega) (by simp)
    rw [← List.map_take, show g.rs.take rs.length = rs from by rw [hr]; simp] at h4
    exact h4
end Go.Proofs.Ytamfkglnejhjdaa.PlayState

namespace Go.Proofs.Ytamfkglnejhjdaa.PlayState
open Go.Proofs.Ytamfkglnejhjdaa.PHyperSerial (info3)
open Go.RowKit Go.Proofs.YtamfkglnejhjdaaW.PrintWords Go.Proofs.YtamfkglnejhjdaaW.PrintLast Go.Proofs.YtamfkglnejhjdaaW.PrintMore Go.Proofs.Ytamfkglnejhjdaa.Fam
set_option linter.unusedSimpArgs false
set_option linter.unusedVariables false

set_option maxHeartbeats 4000000 in
set_option maxRecDepth 100000 in
theorem pick_calls {w0 w : World} {gp gt : Nat} {f t0 : List Value} {g : Gh} (h : PS w0 w gp gt f t0 g) (hf : f.length = 4) :
    Calls Try.prog 44 #[.pointer (some ⟨gp, 0, none⟩)] w fun e w' => e = .returned (.int .i64 (g.ps.headD 0)) ∧ ∃ po, PS w0 w' gp gt f t0 { g with ps := g.ps.tail, po := po } := by
  obtain ⟨hC, hn, hc⟩ := h.pk
  have hx := (h.cell hf).2.2.2.1
  have hfz := blk_frozen h.bp 7
  obtain ⟨⟨A, n, c⟩, hpo⟩ : ∃ t : Sl, g.po = t := ⟨_, rfl⟩
  obtain ⟨ps, hps⟩ : ∃ ps, g.ps = ps := ⟨_, rfl⟩
  rw [hpo, hps] at hC hn hc
  rw [hpo] at hx
  replace hx : w.cell? ⟨gp, 7, none⟩ = some (.slice A n c) := hx
  replace hn : n = ps.length := hn
  replace hc : ps.length ≤ c := hc
  replace hC : Kd.C (Kd.int .i64) w0 A ps.length ps := hC
  rw [hps]
  subst hn
  have HH := Aside0.mk h
  cases ps with
  | nil =>
    clear hC hc h
    go_enter Try.func44, Try.ntmps44
    go_wp2
    go_ret
    exact ⟨rfl, g.po, by rw [show ({ g with ps := ([] : List Int).tail, po := g.po } : Gh) = g from by rw [show ([] : List Int).tail = g.ps from hps.symm]]; exact HH.out⟩
  | cons p ps =>
    obtain ⟨ad, e0, hx0⟩ := Kd.at_int (Kd.C_below hC h.hb) 0 (by omega) (by simp only [List.length_cons]; omega)
    cases e0
    have ep : rd (p :: ps) 0 = p := rfl
    rw [ep, show ad.add (0 : Int).toNat = ad from by cases ad; rfl] at hx0
    have hp : ps.length + 1 ≤ c := hc
    obtain ⟨i0, hi0, hz1⟩ : ∃ i, Try.prog.info? 3 = some i ∧ i.size = 1 := by
      have h := info3
      cases e : Try.prog.info? 3 with
      | none => rw [e] at h; cases h
      | some i => rw [e] at h; injection h with h; injection h with _ h; injection h with h _; exact ⟨i, rfl, h⟩
    obtain ⟨Q, hsl, hC2⟩ : ∃ Q : Option Addr, (∀ W : World, (Instr.slice 24 (.slice (some ad) (ps.length + 1) c) (some (.int .i64 1)) none none).run Try.prog W = .ok (.slice Q ps.length (c - 1)) W) ∧ Kd.C (Kd.int .i64) w0 Q ps.length ps := by
      have hm := Kd.C_drop (m := 1) hC (by simp only [List.length_cons]; omega) hc
      refine ⟨_, fun W => ?_, hm⟩
      exact cut_from (P := Try.prog) 24 3 .i64 Try.underlying24 hi0 1 hz1 (some ad) (ps.length + 1) c 1 (by omega) (by omega) W
    have HC := Aside0.mk hC2
    have hlen : ps.length ≤ c - 1 := by omega
    clear hC hC2 h hc hi0 hz1
    go_enter Try.func44, Try.ntmps44
    go_wp2
    go_ret
    refine ⟨rfl, (Q, ps.length, c - 1), ?_⟩
    have h2 := HH.out
    refine h2.cellw 7 _ (g2 := { g with ps := (p :: ps).tail, po := (Q, ps.length, c - 1) }) ?_ rfl rfl rfl h2.f3 h2.f28 h2.f24 h2.mg ⟨HC.out, rfl, hlen⟩
    obtain ⟨a, b, c', d, rfl⟩ : ∃ a b c' d, f = [a, b, c', d] := by
      match f, hf with
      | [a, b, c', d], _ => exact ⟨a, b, c', d, rfl⟩
    rfl
end Go.Proofs.Ytamfkglnejhjdaa.PlayState

namespace Go.Proofs.Ytamfkglnejhjdaa.PlayState
open Go.RowKit Go.Proofs.YtamfkglnejhjdaaW.PrintWords Go.Proofs.Ytamfkglnejhjdaa.Fam
set_option linter.unusedVariables false
section
variable {α : Type} {enc : α → Value} {e : Nat} {w w1 : World} {base : Nat} {L : List (Value × List α)} {v v1 : Value} {xs xs1 : List α} {i : Nat}
/-- A row of another type has grown. -/
theorem fam_grown (h : Fam enc e w base L) {row : Option Nat} (hg : w.grownBy w1 row) (hty : ∀ b, row = some b → ∃ cells t, w.heap[b]? = some (.cells cells t (0, 0)) ∧ e ≠ t) : Fam enc e w1 base L :=
  h.moved (fun b hlt ⟨p, hp, hb⟩ => hg.block b hlt (fun e2 => by
    obtain ⟨cells, t, h1, h2⟩ := hty b e2.symm
    obtain ⟨cells', h3⟩ := own_typed (h.own p hp) b hb
    rw [h1] at h3
    injection h3 with h3
    injection h3 with _ h3
    exact h2 h3.symm))
/-- One row has grown. -/
theorem fam_grew {h1 : ∀ x : α, (enc x).oneCell' = true} (h : Fam enc e w base L) (i : Nat) (hi : L[i]? = some (v, xs)) {ok : Nat → Prop} (ho : (Kd.scalar enc h1).R e w1 base ok v1 xs1) (hg : w.grownBy w1 v.ownBlock) (hat : v1.ownBlock = v.ownBlock ∨ ∃ b, v1.ownBlock = some b ∧ w.heap.size ≤ b) : Fam enc e w1 base (L.set i (v1, xs1)) :=
  h.put hi (Kd.own_of_R ho) (fun b hb hne => hg.block b hb (fun e2 => hne e2.symm)) (hat.elim .inl (fun h => .inr (.inr h)))
/-- One cell of a row is written. -/
theorem fam_wrote {h1 : ∀ x : α, (enc x).oneCell' = true} {g n c : Nat} (h : Fam enc e w base L) (i : Nat) (hi : L[i]? = some (.slice (some ⟨g, 0, none⟩) n c, xs)) (j : Nat) (x : α) :
    Fam enc e (w.setCell ⟨g, j, none⟩ (enc x)) base (L.set i (.slice (some ⟨g, 0, none⟩) n c, xs.set j x)) := by
  have hm := List.mem_iff_getElem?.2 ⟨i, hi⟩
  have hr := Fam.R (h1 := h1) h hm
  have hp := Kd.R_putn hr (j : Int) x
  rw [Int.toNat_natCast] at hp
  refine h.put hi (Kd.own_of_R hp) (fun b hb hne => ?_) (.inl rfl)
  exact Below.heap_setCell w ⟨g, j, none⟩ (enc x) b (fun e2 => hne (by rw [e2]; rfl))
end
theorem k3_E : ∀ q, q ∈ (44 : Nat) :: k3.E → q = 44 := fun q hq => by simpa [Kd.int, Kd.scalar, Kd.pair] using hq
/-- The merges stand when a row of another type has grown. -/
theorem mg_grown {w w1 : World} {base : Nat} {v : Value} {ms : List (Int × Int × Int)} (h : Kd.R k3 44 w base (fun _ => True) v ms) (hE : ∀ q, q ∈ (44 : Nat) :: k3.E → q = 44) {row : Option Nat} (hg : w.grownBy w1 row) (hty : ∀ b, row = some b → ∃ cells t, w.heap[b]? = some (.cells cells t (0, 0)) ∧ 44 ≠ t) : Kd.R k3 44 w1 base (fun _ => True) v ms := by
  cases row with
  | none => exact Kd.R_grown h hg (fun _ _ => by simp)
  | some g =>
    obtain ⟨cells, t, h1, h2⟩ := hty g rfl
    have h3 := Kd.R_types h h1 (fun q hq => by rw [hE q hq]; exact h2)
    exact Kd.R_mono (Kd.R_grown h3 hg (fun k hk e2 => hk.2 (by injection e2))) (fun k hk => hk.1)
section
variable {w0 w w1 : World} {gp gt : Nat} {f t0 : List Value} {g : Gh}
theorem PS.typed3 (h : PS w0 w gp gt f t0 g) {v : Value} {xs : List Int} (hm : (v, xs) ∈ g.rs.map hv ++ [hv g.sp]) : ∀ b, v.ownBlock = some b → ∃ cells t, w.heap[b]? = some (.cells cells t (0, 0)) ∧ 3 = t := fun b hb => by
  obtain ⟨cells, hc⟩ := own_typed (h.f3.own _ hm) b hb
  exact ⟨cells, 3, hc, rfl⟩
/-- The last row has grown (or is another one), and its header is written into the rows. -/
theorem PS.row_grew (h : PS w0 w gp gt f t0 g) {os : List Sl} {o : Sl} (hoh : g.oh = os ++ [o]) {rs : List Hd} {c : Hd} (hr : g.rs = rs ++ [c]) (hl : os.length = rs.length) {gr cr : Nat} (hro : g.ro = (some ⟨gr, 0, none⟩, g.rs.length, cr)) {ok : Nat → Prop} {t1 : Sl} {xs1 : List Int}
    (ho : Kd.R (Kd.int .i64) 3 w1 w0.heap.size ok (slv t1) xs1) (hb : Below w0.heap.size w0 w1) (hg : w.grownBy w1 (slv c.1).ownBlock) (hat : (slv t1).ownBlock = (slv c.1).ownBlock ∨ ∃ b, (slv t1).ownBlock = some b ∧ w.heap.size ≤ b) :
    PS w0 (w1.setCell ⟨gr, rs.length, none⟩ (slv t1)) gp gt f t0 { g with rs := rs ++ [(t1, xs1)], oh := os ++ [t1] } := by
  have hq : (g.rs.map hv ++ [hv g.sp])[rs.length]? = some (slv c.1, c.2) := by
    rw [hr, List.map_append, List.append_assoc, List.getElem?_append_right (by simp)]
    simp [hv]
  have hmem : (slv c.1, c.2) ∈ g.rs.map hv ++ [hv g.sp] := List.mem_iff_getElem?.2 ⟨_, hq⟩
  have ty : ∀ {e : Nat}, e ≠ 3 → ∀ b, (slv c.1).ownBlock = some b → ∃ cells t, w.heap[b]? = some (.cells cells t (0, 0)) ∧ e ≠ t := fun he b hb => by
    obtain ⟨cells, t, h1, rfl⟩ := h.typed3 hmem b hb
    exact ⟨cells, _, h1, he⟩
  have blk : ∀ {b t : Nat} {cs : Array Value}, w.heap[b]? = some (.cells cs t (0, 0)) → t ≠ 3 → w1.heap[b]? = some (.cells cs t (0, 0)) := fun {b t cs} h1 ht => by
    refine (hg.block b (blk_lt h1) (fun e => ?_)).trans h1
    obtain ⟨cells, t', h2, h3⟩ := ty ht b e.symm
    rw [h1] at h2
    injection h2 with h2
    injection h2 with _ h2
    exact h3 h2
  have bp := blk h.bp (by decide)
  have bt := blk h.bt (by decide)
  have f2 := fam_grown h.f2 hg (ty (by decide))
  have f28 := fam_grown h.f28 hg (ty (by decide))
  have f24 := fam_grown h.f24 hg (ty (by decide))
  have mg := mg_grown h.mg k3_E hg (ty (by decide))
  have f3 := fam_grew (h1 := fun _ => rfl) h.f3 rs.length hq ho hg hat
  rw [show slv g.ro = .slice (some ⟨gr, 0, none⟩) g.rs.length cr from by rw [hro]; rfl] at f24
  have f24' := fam_wrote (h1 := slv_one) f24 0 rfl rs.length t1
  have hbase : w0.heap.size ≤ gr ∧ gr < w1.heap.size := f24.lt (List.mem_cons_self ..) rfl
  obtain ⟨cells24, h24⟩ := own_typed (f24.own _ (List.mem_cons_self ..)) gr rfl
  have keep : ∀ b, b < w1.heap.size → b ≠ gr → (w1.setCell ⟨gr, rs.length, none⟩ (slv t1)).heap[b]? = w1.heap[b]? := fun b hb hn =>
    ((Kept.refl w1 (fun k => k = gr)).setCell (p := ⟨gr, rs.length, none⟩) (.inl rfl) (slv t1)).2 b hb hn
  have n1 : gp ≠ gr := blk_ne bp h24 (by decide)
  have n2 : gt ≠ gr := blk_ne bt h24 (by decide)
  refine ⟨hb.setCell (p := ⟨gr, rs.length, none⟩) hbase.1 _, (keep gp (blk_lt bp) n1).trans bp, h.gep, (keep gt (blk_lt bt) n2).trans bt, h.get, f2.far h24 (by decide) keep, ?_, f28.far h24 (by decide) keep, ?_, ?_, h.pk⟩
  · have h3 := f3.far h24 (by decide) keep
    rw [show (g.rs.map hv ++ [hv g.sp]).set rs.length (slv t1, xs1) = (rs ++ [(t1, xs1)]).map hv ++ [hv g.sp] from by
      rw [hr, List.map_append, List.append_assoc, List.set_append_right _ _ (by simp)]
      simp [hv]] at h3
    exact h3
  · simp only [List.set_cons_zero] at f24'
    rw [show slv ({ g with rs := rs ++ [(t1, xs1)], oh := os ++ [t1] } : Gh).ro = .slice (some ⟨gr, 0, none⟩) g.rs.length cr from by show slv g.ro = _; rw [hro]; rfl]
    show Fam slv 24 _ _ [(_, os ++ [t1])]
    rw [hoh, List.set_append_right _ _ (by omega), hl, Nat.sub_self] at f24'
    exact f24'
  · exact mg_grown mg k3_E (row := some gr) ⟨rfl, rfl, rfl, by simp, fun b hb hn => keep b hb (fun e => hn (by rw [e]))⟩ (fun b hb => by injection hb with hb; subst hb; exact ⟨_, _, h24, by decide⟩)
end
end Go.Proofs.Ytamfkglnejhjdaa.PlayState

namespace Go.Proofs.Ytamfkglnejhjdaa.PlayState
open Go.RowKit Go.Proofs.YtamfkglnejhjdaaW.PrintWords Go.Proofs.Ytamfkglnejhjdaa.Fam
set_option linter.unusedVariables false
theorem fam_nil_mid {α : Type} {enc : α → Value} {e : Nat} {h1 : ∀ x : α, (enc x).oneCell' = true} {w : World} {base : Nat} {L1 L2 : List (Value × List α)} (h : Fam enc e w base (L1 ++ L2)) : Fam enc e w base (L1 ++ (.slice none 0 0, []) :: L2) := by
  have hn : w.ownsRow base e 1 (.slice none 0 0) ([] : List α).length (encs enc ([] : List α)) := Kd.own_of_R (enc := enc) (h1 := h1) (Kd.R_nil _ e w base (fun _ => True))
  obtain ⟨a1, a2, a3⟩ := List.pairwise_append.1 h.apart
  refine ⟨fun p hp => ?_, ?_⟩
  · rcases List.mem_append.1 hp with hp | hp
    · exact h.own p (List.mem_append_left _ hp)
    · rcases List.mem_cons.1 hp with rfl | hp
      · exact hn
      · exact h.own p (List.mem_append_right _ hp)
  · rw [List.pairwise_append, List.pairwise_cons]
    refine ⟨a1, ⟨fun q hq => .inl rfl, a2⟩, fun p hp q hq => ?_⟩
    rcases List.mem_cons.1 hq with rfl | hq
    · exact Ap.symm (.inl rfl)
    · exact a3 p hp q hq
section
variable {w0 w w1 : World} {gp gt : Nat} {f t0 : List Value} {g : Gh}
/-- A view more: the views' outer row has grown, its header is written into the play object. -/
theorem PS.view_made (h : PS w0 w gp gt f t0 g) (hf : f.length = 4) {ok : Nat → Prop} {t1 : Sl}
    (ho : Kd.R kSl 28 w1 w0.heap.size ok (slv t1) (g.vs.map (·.1) ++ [(none, 0, 0)])) (hb : Below w0.heap.size w0 w1) (hg : w.grownBy w1 (slv g.vo).ownBlock) (hat : (slv t1).ownBlock = (slv g.vo).ownBlock ∨ ∃ b, (slv t1).ownBlock = some b ∧ w.heap.size ≤ b) :
    PS w0 (w1.setCell ⟨gp, 4, none⟩ (slv t1)) gp gt f t0 { g with vs := g.vs ++ [((none, 0, 0), [])], vo := t1 } := by
  have ty : ∀ {e : Nat}, e ≠ 28 → ∀ b, (slv g.vo).ownBlock = some b → ∃ cells t, w.heap[b]? = some (.cells cells t (0, 0)) ∧ e ≠ t := fun he b hb => by
    obtain ⟨cells, hc⟩ := own_typed (h.f28.own _ (List.mem_cons_self ..)) b hb
    exact ⟨cells, _, hc, he⟩
  have blk : ∀ {b t : Nat} {cs : Array Value}, w.heap[b]? = some (.cells cs t (0, 0)) → t ≠ 28 → w1.heap[b]? = some (.cells cs t (0, 0)) := fun {b t cs} h1 ht => by
    refine (hg.block b (blk_lt h1) (fun e => ?_)).trans h1
    obtain ⟨cells, t', h2, h3⟩ := ty ht b e.symm
    rw [h1] at h2
    injection h2 with h2
    injection h2 with _ h2
    exact h3 h2
  have bp := blk h.bp (by decide)
  have bt := blk h.bt (by decide)
  have f2 := fam_grown h.f2 hg (ty (by decide))
  have f3 := fam_grown h.f3 hg (ty (by decide))
  have f24 := fam_grown h.f24 hg (ty (by decide))
  have mg := mg_grown h.mg k3_E hg (ty (by decide))
  have f28 := fam_grew (h1 := slv_one) h.f28 0 rfl ho hg hat
  simp only [List.set_cons_zero] at f28
  have keep : ∀ b, b < w1.heap.size → b ≠ gp → (w1.setCell ⟨gp, 4, none⟩ (slv t1)).heap[b]? = w1.heap[b]? := fun b hb hn =>
    ((Kept.refl w1 (fun k => k = gp)).setCell (p := ⟨gp, 4, none⟩) (.inl rfl) (slv t1)).2 b hb hn
  have hne : gt ≠ gp := blk_ne bt bp (by decide)
  have f2' := fam_nil_mid (h1 := fun _ => rfl) f2
  refine ⟨hb.setCell (p := ⟨gp, 4, none⟩) h.gep _, ?_, h.gep, (keep gt (blk_lt bt) hne).trans bt, h.get, ?_, f3.far bp (by decide) keep, ?_, f24.far bp (by decide) keep, ?_, h.pk⟩
  · obtain ⟨a, b, c', d, rfl⟩ : ∃ a b c' d, f = [a, b, c', d] := by
      match f, hf with
      | [a, b, c', d], _ => exact ⟨a, b, c', d, rfl⟩
    exact blk_put bp 4 _ rfl
  · have h3 := f2'.far bp (by decide) keep
    rw [show ({ g with vs := g.vs ++ [((none, 0, 0), [])], vo := t1 } : Gh).vs.map hv ++ ({ g with vs := g.vs ++ [((none, 0, 0), [])], vo := t1 } : Gh).ks.map hv = g.vs.map hv ++ (.slice none 0 0, []) :: g.ks.map hv from by simp [hv, slv]]
    exact h3
  · have h3 := f28.far bp (by decide) keep
    rw [show ({ g with vs := g.vs ++ [((none, 0, 0), [])], vo := t1 } : Gh).vs.map (·.1) = g.vs.map (·.1) ++ [(none, 0, 0)] from by simp]
    exact h3
  · exact mg_grown mg k3_E (row := some gp) ⟨rfl, rfl, rfl, by simp, fun b hb hn => keep b hb (fun e => hn (by rw [e]))⟩ (fun b hb => by injection hb with hb; subst hb; exact ⟨_, _, bp, by decide⟩)
end
end Go.Proofs.Ytamfkglnejhjdaa.PlayState

namespace Go.Proofs.Ytamfkglnejhjdaa.PlayState
open Go.Proofs.Ytamfkglnejhjdaa.PHyperSerial (info3)
open Go.RowKit Go.Proofs.YtamfkglnejhjdaaW.PrintWords Go.Proofs.YtamfkglnejhjdaaW.PrintLast Go.Proofs.YtamfkglnejhjdaaW.PrintMore Go.Proofs.Ytamfkglnejhjdaa.Fam
set_option linter.unusedVariables false
theorem infoV : (Try.prog.info? 28).map (fun i => (i.zero, i.size, i.bytes)) = some (some (.slice none 0 0), 1, 24) := by kernel_rfl
/-- A call of a function value that captures nothing. -/
theorem goesV_ {P : Program} {ops : Array Oper} {Q : Exit → Act → World → Prop} {oi : Oper} {N : Option Tmp} {a : Act} {w : World} {K : Act → World → Prop} {f : FuncId} {fn : Func} {x : Operand} {ars : Array Operand} {ts : Array TypeId} (hf : P.funcs[f]? = some fn) (hname : (fn.name == "runtime.NumGoroutine") = false) (hb : fn.body.isSome = true) (args : Array Value)
    (hw : Region.wanted oi (yielded ops a.tmps) = true) (hN : oi.dst = N) (hop : oi.op = .call { callee := .value x, args := ars, argTypes := ts }) (hx : a.eval x = .func (.func f) #[] #[]) (hargs : ars.map a.eval = args)
    (h : Calls P f args w fun e w' => ∃ v, e = .returned v ∧ K (a.put N v) w') : if Region.wanted oi (yielded ops a.tmps) = true then Oper.wp P oi a w K Q else K (a.put N undef) w := by
  refine call_ f args hw hN ?_ h
  have he := enters_ hf hname hb args w
  unfold execOp
  simp [hop, resolve, Deferred.ofValue, invoke, hx, hargs, he]
set_option maxHeartbeats 2000000 in
set_option maxRecDepth 100000 in
theorem fresh_calls (w : World) : Calls Try.prog 26 #[] w fun e w' => e = .returned (.slice none 0 0) ∧ Drawn0 w w' := by
  go_enter Try.func26, Try.ntmps26
  go_wp2
  go_ret
  exact ⟨rfl, Drawn0.refl _⟩
section
variable {w0 w w1 : World} {gp gt : Nat} {f t0 : List Value} {g : Gh}
theorem PS.outer_at (h : PS w0 w gp gt f t0 g) (hoh : g.oh = g.rs.map (·.1)) {rs : List Hd} {c : Hd} (hr : g.rs = rs ++ [c]) {gr n cr : Nat} (hro : g.ro = (some ⟨gr, 0, none⟩, n, cr)) :
    w.cell? ⟨gr, rs.length, none⟩ = some (slv c.1) ∧ w.frozen? ⟨gr, rs.length, none⟩ = false ∧ ∃ cells, w.heap[gr]? = some (.cells cells 24 (0, 0)) := by
  obtain ⟨g2, c2, e1, hx, hf⟩ := fam_at (h1 := slv_one) h.f24 0 rfl (none, 0, 0) rs.length (by rw [hoh, hr]; simp)
  have e2 := slv_form e1
  rw [hro] at e2
  obtain rfl : gr = g2 := by injection e2 with e2; injection e2 with e2; injection e2
  have hv : g.oh.getD rs.length (none, 0, 0) = c.1 := by rw [hoh, hr]; simp
  rw [hv] at hx
  refine ⟨hx, hf, ?_⟩
  exact own_typed (h.f24.own _ (List.mem_singleton.2 rfl)) gr (by show (slv g.ro).ownBlock = _; rw [hro]; rfl)
/-- Blocks of other types stand as they stood when a row of numbers grows. -/
theorem PS.stays3 (h : PS w0 w gp gt f t0 g) {v : Value} {xs : List Int} (hm : (v, xs) ∈ g.rs.map hv ++ [hv g.sp]) (hg : w.grownBy w1 v.ownBlock) {b t : Nat} {cs : Array Value} (h1 : w.heap[b]? = some (.cells cs t (0, 0))) (ht : t ≠ 3) : w1.heap[b]? = w.heap[b]? := by
  refine hg.block b (blk_lt h1) (fun e => ?_)
  obtain ⟨cells, t', h2, rfl⟩ := h.typed3 hm b e.symm
  rw [h1] at h2
  injection h2 with h2
  injection h2 with _ h2
  exact ht h2
theorem PS.stays28 (h : PS w0 w gp gt f t0 g) (hg : w.grownBy w1 (slv g.vo).ownBlock) {b t : Nat} {cs : Array Value} (h1 : w.heap[b]? = some (.cells cs t (0, 0))) (ht : t ≠ 28) : w1.heap[b]? = w.heap[b]? := by
  refine hg.block b (blk_lt h1) (fun e => ?_)
  obtain ⟨cells, h2⟩ := own_typed (h.f28.own _ (List.mem_cons_self ..)) b e.symm
  rw [h1] at h2
  injection h2 with h2
  injection h2 with _ h2
  exact ht h2
end
end Go.Proofs.Ytamfkglnejhjdaa.PlayState

namespace Go.Proofs.Ytamfkglnejhjdaa.PlayState
open Go.Proofs.Ytamfkglnejhjdaa.PHyperSerial (info3)
open Go.RowKit Go.Proofs.YtamfkglnejhjdaaW.PrintWords Go.Proofs.YtamfkglnejhjdaaW.PrintLast Go.Proofs.YtamfkglnejhjdaaW.PrintMore Go.Proofs.Ytamfkglnejhjdaa.Fam
set_option linter.unusedSimpArgs false
set_option linter.unusedVariables false

def M35a : Bool × List (List Nat × List Nat) := (true, [([], []), ([0], [0]), ([1], [1]), ([2], [2]), ([], []), ([], []), ([5], [5]), ([6], [6]), ([7], [7]), ([], []), ([8, 9], [8, 9]), ([10], [10]), ([], []), ([12], [12]), ([13], [13]), ([14], [14]), ([15], [15]), ([16], [16]), ([11, 17], [11, 17]), ([3, 4, 0, 1, 2, 3, 4, 5, 6, 7, 8, 9, 10, 11, 12, 13, 14, 15, 16, 17, 18], [3, 4]), ([19, 18, 18, 0, 1, 2, 3, 4, 5, 6, 7, 8, 9, 10, 11, 12, 13, 14, 15, 16, 17, 18], [18, 19])])
def M35aB : List Nat := [0, 1, 3, 7, 0, 0, 32, 96, 224, 0, 992, 2016, 0, 4096, 12288, 28672, 61440, 126976, 262112, 524287, 1048575]
theorem M35a_tab : rtab .any (opsOf Try.f35 1) = M35a := by kernel_rfl
theorem M35a_bits : waitsOk M35a.2 M35aB = true := by kernel_rfl
def M35b : Bool × List (List Nat × List Nat) := (true, [([], []), ([], []), ([1], [1]), ([2], [2]), ([3], [3]), ([], []), ([5], [5]), ([6], [6]), ([7], [7]), ([8], [8]), ([9], [9]), ([10], [10]), ([4, 11, 10], [4, 11]), ([0, 0, 1, 2, 3, 4, 5, 6, 7, 8, 9, 10, 11, 12], [0]), ([13, 0, 1, 2, 3, 4, 5, 6, 7, 8, 9, 10, 11, 12], [13]), ([14, 12, 12, 0, 1, 2, 3, 4, 5, 6, 7, 8, 9, 10, 11, 12], [12, 14])])
def M35bB : List Nat := [0, 0, 2, 6, 14, 0, 32, 96, 224, 480, 992, 2016, 4094, 8191, 16383, 32767]
theorem M35b_tab : rtab .any (opsOf Try.f35 2) = M35b := by kernel_rfl
theorem M35b_bits : waitsOk M35b.2 M35bB = true := by kernel_rfl

set_option maxHeartbeats 8000000 in
set_option maxRecDepth 100000 in
theorem made_calls {w0 w : World} {gp gt : Nat} {f t0 : List Value} {g : Gh} (h : PS w0 w gp gt f t0 g) {f1 f2 f3 : Value} (hf : f = [.func (.func 26) #[] #[], f1, f2, f3]) (hoh : g.oh = g.rs.map (·.1)) {rs : List Hd} {c : Hd} (hr : g.rs = rs ++ [c])
    (hk : rs.length ≤ 4194304) (hvb : g.vs.length ≤ 4194304) (hx : c.2.length ≤ 4194304) :
    Calls Try.prog 35 #[.pointer (some ⟨gp, 0, none⟩)] w fun e w' => e = .returned (.tuple #[]) ∧ ∃ t1 vo, PS w0 w' gp gt f t0 { g with rs := rs ++ [(t1, c.2 ++ [(g.vs.length : Int)])], vs := g.vs ++ [((none, 0, 0), [])], vo := vo, oh := rs.map (·.1) ++ [t1] } := by
  have hf4 : f.length = 4 := by rw [hf]; rfl
  have hlen : g.rs.length = rs.length + 1 := by rw [hr]; simp
  obtain ⟨gr, cr, hro⟩ : ∃ gr cr, g.ro = (some ⟨gr, 0, none⟩, g.rs.length, cr) := by
    obtain ⟨g2, c2, e1, _, _⟩ := fam_at (h1 := slv_one) h.f24 0 rfl (none, 0, 0) rs.length (by rw [hoh, hr]; simp)
    have e2 := slv_form e1
    rw [hoh, List.length_map] at e2
    exact ⟨g2, c2, e2⟩
  obtain ⟨vA, vc, hvo⟩ : ∃ vA vc, g.vo = (vA, g.vs.length, vc) := by
    obtain ⟨A, c2, e1, _, _⟩ := Kd.R_reads (Fam.R (h1 := slv_one) h.f28 (List.mem_cons_self ..))
    obtain ⟨⟨a, b, d⟩, hh⟩ : ∃ t : Sl, g.vo = t := ⟨_, rfl⟩
    replace e1 : Value.slice a b d = .slice A (g.vs.map (·.1)).length c2 := by rw [← e1]; show _ = slv g.vo; rw [hh]; rfl
    rw [List.length_map] at e1
    injection e1 with e1 e3 e4
    exact ⟨A, c2, by rw [hh, e1, e3, e4]⟩
  obtain ⟨⟨cA, cn, cc⟩, xs⟩ := c
  obtain ⟨vn, hvn⟩ : ∃ vn, g.vs.length = vn := ⟨_, rfl⟩
  obtain ⟨k, hkk⟩ : ∃ k, rs.length = k := ⟨_, rfl⟩
  rw [hlen, hkk] at hro
  rw [hvn] at hvo hvb
  rw [hkk] at hk
  have hmem : (slv (cA, cn, cc), xs) ∈ g.rs.map hv ++ [hv g.sp] := by rw [hr]; simp [hv]
  have HS := Aside0.mk h
  have HCells : ∀ w', PS w0 w' gp gt f t0 g → w'.cell? ⟨gp, 5, none⟩ = some (.slice (some ⟨gr, 0, none⟩) (k + 1) cr) ∧ w'.cell? ⟨gp, 4, none⟩ = some (.slice vA vn vc) ∧ w'.cell? ⟨gr, k, none⟩ = some (.slice cA cn cc) := fun w' h' => by
    have h1 := h'.cell hf4
    have h2 := (h'.outer_at hoh hr hro).1
    rw [hro, hvo] at h1
    rw [hkk] at h2
    exact ⟨h1.2.1, h1.1, h2⟩
  obtain ⟨Pst, hI, hE⟩ : ∃ Pst : World → Prop, (∀ t1 vo w', PS w0 w' gp gt f t0 { g with rs := rs ++ [(t1, xs ++ [(g.vs.length : Int)])], vs := g.vs ++ [((none, 0, 0), [])], vo := vo, oh := rs.map (·.1) ++ [t1] } → Pst w') ∧ (∀ w', Pst w' → ∃ t1 vo, PS w0 w' gp gt f t0 { g with rs := rs ++ [(t1, xs ++ [(g.vs.length : Int)])], vs := g.vs ++ [((none, 0, 0), [])], vo := vo, oh := rs.map (·.1) ++ [t1] }) :=
    ⟨fun w' => ∃ t1 vo, PS w0 w' gp gt f t0 { g with rs := rs ++ [(t1, xs ++ [(g.vs.length : Int)])], vs := g.vs ++ [((none, 0, 0), [])], vo := vo, oh := rs.map (·.1) ++ [t1] }, fun t1 vo w' h => ⟨t1, vo, h⟩, fun w' h => h⟩
  have HI := Aside0.mk hI
  refine Calls.mono (?_ : Calls Try.prog 35 #[.pointer (some ⟨gp, 0, none⟩)] w fun e w' => e = .returned (.tuple #[]) ∧ Pst w') (fun e w' ⟨h1, h2⟩ => ⟨h1, hE w' h2⟩)
  clear hI hE
  have hHD := HCells
  have hGrown : ∀ w' w1, PS w0 w' gp gt f t0 g → w'.grownBy w1 (Value.slice cA cn cc).ownBlock → (w1.cell? ⟨gp, 5, none⟩ = some (.slice (some ⟨gr, 0, none⟩) (k + 1) cr) ∧ w1.cell? ⟨gp, 4, none⟩ = some (.slice vA vn vc) ∧ w1.cell? ⟨gr, k, none⟩ = some (.slice cA cn cc)) ∧ w1.frozen? ⟨gr, k, none⟩ = false := fun w' w1 h' hg => by
    have h1 := HCells w' h'
    have e1 := h'.stays3 hmem hg h'.bp (by decide)
    obtain ⟨cells, h24⟩ := (h'.outer_at hoh hr hro).2.2
    have e2 := h'.stays3 hmem hg h24 (by decide)
    exact ⟨⟨(World.cell?_of_block e1).trans h1.1, (World.cell?_of_block e1).trans h1.2.1, (World.cell?_of_block e2).trans h1.2.2⟩, (World.frozen?_of_block e2).trans (by have := (h'.outer_at hoh hr hro).2.1; rw [hkk] at this; exact this)⟩
  have hHG : ∀ w' w1, PS w0 w' gp gt f t0 g → w'.grownBy w1 (Value.slice cA cn cc).ownBlock → _ := fun w' w1 h' hg => (hGrown w' w1 h' hg).1
  have hFZ : ∀ w' w1, PS w0 w' gp gt f t0 g → w'.grownBy w1 (Value.slice cA cn cc).ownBlock → w1.frozen? ⟨gr, k, none⟩ = false := fun w' w1 h' hg => (hGrown w' w1 h' hg).2
  have hRow : ∀ w', PS w0 w' gp gt f t0 g → Kd.R (Kd.int .i64) 3 w' w0.heap.size (fun b => (Value.slice cA cn cc).ownBlock = some b ∨ w'.heap.size ≤ b) (.slice cA cn cc) xs := fun w' h' => Kd.R_mono (Fam.R (h1 := fun _ => rfl) h'.f3 hmem) (fun b hb => .inl hb)
  have hRG : ∀ w' w1 (t1 : Sl) (y : Int) (ok : Nat → Prop), PS w0 w' gp gt f t0 g → Kd.R (Kd.int .i64) 3 w1 w0.heap.size ok (slv t1) (xs ++ [y]) → Below w0.heap.size w0 w1 → w'.grownBy w1 (Value.slice cA cn cc).ownBlock → ((slv t1).ownBlock = (Value.slice cA cn cc).ownBlock ∨ ∃ b, (slv t1).ownBlock = some b ∧ w'.heap.size ≤ b) →
      PS w0 (w1.setCell ⟨gr, k, none⟩ (slv t1)) gp gt f t0 { g with rs := rs ++ [(t1, xs ++ [y])], oh := rs.map (·.1) ++ [t1] } := fun w' w1 t1 y ok h' ho hb hg hat => by
    have := h'.row_grew (os := rs.map (·.1)) (o := (cA, cn, cc)) (by rw [hoh, hr, List.map_append]; rfl) hr (by simp) (by rw [hro, hlen, hkk]) ho hb hg hat
    rw [hkk] at this
    exact this
  have hk2 : (k : Int) ≤ 4194304 := by omega
  have hw1 : wrap64 ((k : Int) + 1 - 1) = (k : Int) := by rw [BitMath.wrap_id (by unfold BitMath.In64; omega)]; omega
  have hw3 : wrap64 (k : Int) = (k : Int) := BitMath.wrap_id (by unfold BitMath.In64; omega)
  have l1 : ((k : Int) < (k : Int) + 1) = True := eq_true (by omega)
  have HW := Aside0.mk (And.intro h trivial)
  have hx5 := (hHD w h).1
  have HH1 := Aside0.mk hHD
  have HH2 := Aside0.mk hHG
  have HH3 := Aside0.mk hFZ
  have HH4 := Aside0.mk hRow
  have HH5 := Aside0.mk hRG
  have HX := Aside0.mk hx
  clear h HCells hGrown hHD hHG hFZ hRow hRG hx hlen hmem HS
  go_enter Try.func35, Try.ntmps35
  go_upto_region 1 with fail
  clear hx5
  refine start_ (n := 21) (S := (fun w' => w'.cell? ⟨gp, 5, none⟩ = some (.slice (some ⟨gr, 0, none⟩) (k + 1) cr) ∧ w'.cell? ⟨gp, 4, none⟩ = some (.slice vA vn vc) ∧ w'.cell? ⟨gr, k, none⟩ = some (.slice cA cn cc))) (ds := [20]) #[false, false, false, false, false, false, false, false, false, false, false, false, false, false, false, false, false, false, false, false, false] (by kernel_rfl) rfl rfl (HH1.out w HW.out.1) (fun hHeld => ?_); refine with_tabW M35a_tab M35a_bits (fun HT_ HW_ => ?_)
  have HW2 := Aside0.mk (show PS w0 w.drew gp gt f t0 g from HW.out.1.below (Drawn0.below ⟨⟨1, rfl⟩⟩))
  generalize w.drew = w2 at HW2 hHeld ⊢
  refine pure_ (i := 0) (N := some 9) (v := ?_) (a' := ?_) #[true, false, false, false, false, false, false, false, false, false, false, false, false, false, false, false, false, false, false, false, false] rfl rfl (any_of HT_.out (by kernel_rfl)) (fun _ _ _ h => h) (Or.inl ⟨by rfl, ?_⟩) ?_ ?_
  rotate_left
  · intro w'
    go_simp
    with_reducible rfl
  rotate_left
  · simp only [Act.put, List.setIfInBounds_toArray, List.set_cons_zero, List.set_cons_succ, i64_w, i32_w]
    rfl
  refine pure_ (i := 1) (N := some 10) (v := ?_) (a' := ?_) #[true, true, false, false, false, false, false, false, false, false, false, false, false, false, false, false, false, false, false, false, false] rfl rfl (any_of HT_.out (by kernel_rfl)) (fun _ _ _ h => h) (Or.inl ⟨by rfl, ?_⟩) ?_ ?_
  rotate_left
  · intro w'
    go_simp
    with_reducible rfl
  rotate_left
  · simp only [Act.put, List.setIfInBounds_toArray, List.set_cons_zero, List.set_cons_succ, i64_w, i32_w]
    rfl
  refine pure_ (i := 2) (N := some 11) (v := ?_) (a' := ?_) #[true, true, true, false, false, false, false, false, false, false, false, false, false, false, false, false, false, false, false, false, false] rfl rfl (any_of HT_.out (by kernel_rfl)) (fun _ _ _ h => h) (Or.inl ⟨by rfl, ?_⟩) ?_ ?_
  rotate_left
  · intro w'
    go_simp
    with_reducible rfl
  rotate_left
  · simp only [Act.put, List.setIfInBounds_toArray, List.set_cons_zero, List.set_cons_succ, i64_w, i32_w]
    rfl
  refine take_ (i := 3) (N := some 12) (v := ?_) (a' := ?_) #[true, true, true, true, false, false, false, false, false, false, false, false, false, false, false, false, false, false, false, false, false] rfl rfl (take_ofW HT_.out HW_.out (by kernel_rfl)) (fun _ _ _ h => h) (Or.inl ⟨by rfl, ?_⟩) hHeld ?_ ?_
  rotate_left
  · rintro w' ⟨s0, s1, s2⟩
    go_simp
    with_reducible rfl
  rotate_left
  · simp only [Act.put, List.setIfInBounds_toArray, List.set_cons_zero, List.set_cons_succ, i64_w, i32_w]
    rfl
  refine pure_ (i := 4) (N := some 13) (v := ?_) (a' := ?_) #[true, true, true, true, true, false, false, false, false, false, false, false, false, false, false, false, false, false, false, false, false] rfl rfl (any_of HT_.out (by kernel_rfl)) (fun _ _ _ h => h) (Or.inl ⟨by rfl, ?_⟩) ?_ ?_
  rotate_left
  · intro w'
    go_simp
    with_reducible rfl
  rotate_left
  · simp only [Act.put, List.setIfInBounds_toArray, List.set_cons_zero, List.set_cons_succ, i64_w, i32_w]
    rfl
  refine pure_ (i := 5) (N := some 14) (v := ?_) (a' := ?_) #[true, true, true, true, true, true, false, false, false, false, false, false, false, false, false, false, false, false, false, false, false] rfl rfl (any_of HT_.out (by kernel_rfl)) (fun _ _ _ h => h) (Or.inl ⟨by rfl, ?_⟩) ?_ ?_
  rotate_left
  · intro w'
    go_simp
    with_reducible rfl
  rotate_left
  · simp only [Act.put, List.setIfInBounds_toArray, List.set_cons_zero, List.set_cons_succ, i64_w, i32_w]
    rfl
  refine pure_ (i := 6) (N := some 15) (v := ?_) (a' := ?_) #[true, true, true, true, true, true, true, false, false, false, false, false, false, false, false, false, false, false, false, false, false] rfl rfl (any_of HT_.out (by kernel_rfl)) (fun _ _ _ h => h) (Or.inl ⟨by rfl, ?_⟩) ?_ ?_
  rotate_left
  · intro w'
    go_simp
    with_reducible rfl
  rotate_left
  · simp only [Act.put, List.setIfInBounds_toArray, List.set_cons_zero, List.set_cons_succ, i64_w, i32_w]
    rfl
  refine pure_ (i := 7) (N := some 16) (v := ?_) (a' := ?_) #[true, true, true, true, true, true, true, true, false, false, false, false, false, false, false, false, false, false, false, false, false] rfl rfl (any_of HT_.out (by kernel_rfl)) (fun _ _ _ h => h) (Or.inl ⟨by rfl, ?_⟩) ?_ ?_
  rotate_left
  · intro w'
    go_simp
    with_reducible rfl
  rotate_left
  · simp only [Act.put, List.setIfInBounds_toArray, List.set_cons_zero, List.set_cons_succ, i64_w, i32_w]
    rfl
  refine take_ (i := 8) (N := some 17) (v := ?_) (a' := ?_) #[true, true, true, true, true, true, true, true, true, false, false, false, false, false, false, false, false, false, false, false, false] rfl rfl (take_ofW HT_.out HW_.out (by kernel_rfl)) (fun _ _ _ h => h) (Or.inl ⟨by rfl, ?_⟩) hHeld ?_ ?_
  rotate_left
  · rintro w' ⟨s0, s1, s2⟩
    go_simp
    with_reducible rfl
  rotate_left
  · simp only [Act.put, List.setIfInBounds_toArray, List.set_cons_zero, List.set_cons_succ, i64_w, i32_w]
    rfl
  refine pure_ (i := 9) (N := some 18) (v := ?_) (a' := ?_) #[true, true, true, true, true, true, true, true, true, true, false, false, false, false, false, false, false, false, false, false, false] rfl rfl (any_of HT_.out (by kernel_rfl)) (fun _ _ _ h => h) (Or.inl ⟨by rfl, ?_⟩) ?_ ?_
  rotate_left
  · intro w'
    go_simp
    with_reducible rfl
  rotate_left
  · simp only [Act.put, List.setIfInBounds_toArray, List.set_cons_zero, List.set_cons_succ, i64_w, i32_w]
    rfl
  refine pure_ (i := 10) (N := some 19) (v := ?_) (a' := ?_) #[true, true, true, true, true, true, true, true, true, true, true, false, false, false, false, false, false, false, false, false, false] rfl rfl (any_of HT_.out (by kernel_rfl)) (fun _ _ _ h => h) (Or.inl ⟨by rfl, ?_⟩) ?_ ?_
  rotate_left
  · intro w'
    go_simp
    with_reducible rfl
  rotate_left
  · simp only [Act.put, List.setIfInBounds_toArray, List.set_cons_zero, List.set_cons_succ, i64_w, i32_w]
    rfl
  refine take_ (i := 11) (N := some 20) (v := ?_) (a' := ?_) #[true, true, true, true, true, true, true, true, true, true, true, true, false, false, false, false, false, false, false, false, false] rfl rfl (take_ofW HT_.out HW_.out (by kernel_rfl)) (fun _ _ _ h => h) (Or.inl ⟨by rfl, ?_⟩) hHeld ?_ ?_
  rotate_left
  · rintro w' ⟨s0, s1, s2⟩
    go_simp
    with_reducible rfl
  rotate_left
  · simp only [Act.put, List.setIfInBounds_toArray, List.set_cons_zero, List.set_cons_succ, i64_w, i32_w]
    rfl
  refine pure_ (i := 12) (N := some 21) (v := ?_) (a' := ?_) #[true, true, true, true, true, true, true, true, true, true, true, true, true, false, false, false, false, false, false, false, false] rfl rfl (any_of HT_.out (by kernel_rfl)) (fun _ _ _ h => h) (Or.inl ⟨by rfl, ?_⟩) ?_ ?_
  rotate_left
  · intro w'
    go_simp
    with_reducible rfl
  rotate_left
  · simp only [Act.put, List.setIfInBounds_toArray, List.set_cons_zero, List.set_cons_succ, i64_w, i32_w]
    rfl
  refine pure_ (i := 13) (N := some 22) (v := ?_) (a' := ?_) #[true, true, true, true, true, true, true, true, true, true, true, true, true, true, false, false, false, false, false, false, false] rfl rfl (any_of HT_.out (by kernel_rfl)) (fun _ _ _ h => h) (Or.inl ⟨by rfl, ?_⟩) ?_ ?_
  rotate_left
  · intro w'
    go_simp
    with_reducible rfl
  rotate_left
  · simp only [Act.put, List.setIfInBounds_toArray, List.set_cons_zero, List.set_cons_succ, i64_w, i32_w]
    rfl
  refine pure_ (i := 14) (N := some 23) (v := ?_) (a' := ?_) #[true, true, true, true, true, true, true, true, true, true, true, true, true, true, true, false, false, false, false, false, false] rfl rfl (any_of HT_.out (by kernel_rfl)) (fun _ _ _ h => h) (Or.inl ⟨by rfl, ?_⟩) ?_ ?_
  rotate_left
  · intro w'
    go_simp
    with_reducible rfl
  rotate_left
  · simp only [Act.put, List.setIfInBounds_toArray, List.set_cons_zero, List.set_cons_succ, i64_w, i32_w]
    rfl
  refine take_ (i := 15) (N := some 24) (v := ?_) (a' := ?_) #[true, true, true, true, true, true, true, true, true, true, true, true, true, true, true, true, false, false, false, false, false] rfl rfl (take_ofW HT_.out HW_.out (by kernel_rfl)) (fun _ _ _ h => h) (Or.inl ⟨by rfl, ?_⟩) hHeld ?_ ?_
  rotate_left
  · rintro w' ⟨s0, s1, s2⟩
    go_simp
    with_reducible rfl
  rotate_left
  · simp only [Act.put, List.setIfInBounds_toArray, List.set_cons_zero, List.set_cons_succ, i64_w, i32_w]
    rfl
  refine pure_ (i := 16) (N := some 25) (v := ?_) (a' := ?_) #[true, true, true, true, true, true, true, true, true, true, true, true, true, true, true, true, true, false, false, false, false] rfl rfl (any_of HT_.out (by kernel_rfl)) (fun _ _ _ h => h) (Or.inl ⟨by rfl, ?_⟩) ?_ ?_
  rotate_left
  · intro w'
    go_simp
    with_reducible rfl
  rotate_left
  · simp only [Act.put, List.setIfInBounds_toArray, List.set_cons_zero, List.set_cons_succ, i64_w, i32_w]
    rfl
  refine one_ (i := 17) (N := some 26) #[true, true, true, true, true, true, true, true, true, true, true, true, true, true, true, true, true, true, false, false, false] rfl rfl (one_of HT_.out (by kernel_rfl)) (by decide) (fun K hK => ?_)
  refine value_ (w1 := ?_) (v := ?_) (by rfl) rfl ?_ ?_
  rotate_left 2
  · go_simp
    constructor
    · rfl
    · rfl
  refine hK.out _ _ (HH1.out _ (HW2.out.below (below_alloc (Below.refl _ _) _))) (fun hHeld => ?_)
  clear hK K
  refine norm_ (a' := ?_) ?_ ?_
  rotate_left
  · show Act.put _ (some 26) _ = _
    simp only [Act.put, List.setIfInBounds_toArray, List.set_cons_zero, List.set_cons_succ, i64_w, i32_w]
    rfl
  refine one_ (i := 18) (N := some 27) #[true, true, true, true, true, true, true, true, true, true, true, true, true, true, true, true, true, true, true, false, false] rfl rfl (one_of HT_.out (by kernel_rfl)) (by decide) (fun K hK => ?_)
  refine Kd.R_append_step (Kd.int .i64) (w0 := w0) w0.heap.size (by rfl) (.tmp 20) (.tmp 26) 24 3 (.int .i64 0) 8 rfl Try.underlying24 info3 rfl (by decide) (by omega) (.slice cA cn cc) xs (vn : Int) [.int .i64 (vn : Int)] (fun b => (Value.slice cA cn cc).ownBlock = some b ∨ w2.heap.size ≤ b) (fun _ => False) rfl rfl ?aP (fun _ hk => hk.elim) ?aF ?aO ?aB ?aS ?aL ?_
  (case aP => exact rfl)
  (case aB => exact HW2.out.hb)
  (case aF => exact (fun k_ hk => .inr hk))
  (case aO => exact HH4.out w2 HW2.out)
  (case aS => exact (below_size HW2.out.hb))
  (case aL => have := HX.out; simp only at this; omega)
  intro v1 w5 ho hb hg hat
  obtain ⟨A1, c1, rfl, _, _⟩ := Kd.R_reads ho
  have HG := Aside0.mk (And.intro ho (And.intro hb (And.intro hg hat)))
  clear ho hb hg hat
  refine hK.out _ _ (HH2.out w2 w5 HW2.out HG.out.2.2.1) (fun hHeld => ?_)
  clear hK K
  refine norm_ (a' := ?_) ?_ ?_
  rotate_left
  · show Act.put _ (some 27) _ = _
    simp only [Act.put, List.setIfInBounds_toArray, List.set_cons_zero, List.set_cons_succ, i64_w, i32_w]
    rfl
  refine pure_ (i := 19) (N := some 28) (v := ?_) (a' := ?_) #[true, true, true, true, true, true, true, true, true, true, true, true, true, true, true, true, true, true, true, true, false] rfl rfl (any_of HT_.out (by kernel_rfl)) (fun _ _ _ h => h) (Or.inl ⟨by rfl, ?_⟩) ?_ ?_
  rotate_left
  · intro w'
    go_simp
    with_reducible rfl
  rotate_left
  · simp only [Act.put, List.setIfInBounds_toArray, List.set_cons_zero, List.set_cons_succ, i64_w, i32_w]
    rfl
  have hfz := HH3.out w2 w5 HW2.out HG.out.2.2.1
  refine last_ (i := 20) (N := none) #[true, true, true, true, true, true, true, true, true, true, true, true, true, true, true, true, true, true, true, true, true] rfl rfl (one_of HT_.out (by kernel_rfl)) (by decide) (fun K hK => ?_)
  refine skip_ (w1 := ?_) (by rfl) rfl ?_ ?_
  rotate_left
  · go_simp
    rfl
  refine hK.out _ _ ?_
  clear hK K
  refine done_ (done_of HT_.out (by kernel_rfl)) ?_
  clear HT_ HW_ hHeld

  have hv6 := HH5.out w2 w5 (A1, (xs ++ [(vn : Int)]).length, c1) (vn : Int) _ HW2.out HG.out.1 HG.out.2.1 HG.out.2.2.1 HG.out.2.2.2
  rw [show (xs ++ [(vn : Int)]).length = xs.length + 1 from by simp] at hv6
  replace hv6 : PS w0 (w5.setCell ⟨gr, k, none⟩ (.slice A1 (xs.length + 1) c1)) gp gt f t0 { g with rs := rs ++ [((A1, xs.length + 1, c1), xs ++ [(vn : Int)])], oh := rs.map (·.1) ++ [(A1, xs.length + 1, c1)] } := hv6
  obtain ⟨t1, ht1⟩ : ∃ t1 : Sl, t1 = (A1, xs.length + 1, c1) := ⟨_, rfl⟩
  rw [← ht1] at hv6
  obtain ⟨g1, hg1⟩ : ∃ g1 : Gh, g1 = { g with rs := rs ++ [(t1, xs ++ [(vn : Int)])], oh := rs.map (·.1) ++ [t1] } := ⟨_, rfl⟩
  rw [← hg1] at hv6
  have hvo1 : g1.vo = (vA, vn, vc) := by rw [hg1]; exact hvo
  have hvs1 : g1.vs = g.vs := by rw [hg1]
  have HV := Aside0.mk hv6
  have HL1 := Aside0.mk (show g1.vs.length ≤ 4194304 by rw [hvs1, hvn]; exact hvb)
  have hCell2 : ∀ w', PS w0 w' gp gt f t0 g1 → w'.cell? ⟨gp, 4, none⟩ = some (.slice vA vn vc) ∧ w'.cell? ⟨gp, 0, none⟩ = some (.func (.func 26) #[] #[]) := fun w' h' => by
    have h1 := (h'.cell hf4).1
    rw [hvo1] at h1
    exact ⟨h1, by subst hf; exact (blk_cell h'.bp 0).trans rfl⟩
  have hGrown2 : ∀ w' w1, PS w0 w' gp gt f t0 g1 → w'.grownBy w1 (Value.slice vA vn vc).ownBlock → (w1.cell? ⟨gp, 4, none⟩ = some (.slice vA vn vc) ∧ w1.cell? ⟨gp, 0, none⟩ = some (.func (.func 26) #[] #[])) ∧ w1.frozen? ⟨gp, 4, none⟩ = false := fun w' w1 h' hg => by
    have e1 := h'.stays28 (by rw [hvo1]; exact hg) h'.bp (by decide)
    have h1 := hCell2 w' h'
    exact ⟨⟨(World.cell?_of_block e1).trans h1.1, (World.cell?_of_block e1).trans h1.2⟩, (World.frozen?_of_block e1).trans (blk_frozen h'.bp 4)⟩
  have hOut : ∀ w', PS w0 w' gp gt f t0 g1 → Kd.R kSl 28 w' w0.heap.size (fun b => (Value.slice vA vn vc).ownBlock = some b ∨ w'.heap.size ≤ b) (.slice vA vn vc) (g1.vs.map (·.1)) := fun w' h' => by
    have h2 := Fam.R (h1 := slv_one) h'.f28 (List.mem_cons_self ..)
    rw [hvo1] at h2
    exact Kd.R_mono h2 (fun b hb => .inl hb)
  have hView : ∀ w' w1 (t2 : Sl) (ok : Nat → Prop), PS w0 w' gp gt f t0 g1 → Kd.R kSl 28 w1 w0.heap.size ok (slv t2) (g1.vs.map (·.1) ++ [(none, 0, 0)]) → Below w0.heap.size w0 w1 → w'.grownBy w1 (Value.slice vA vn vc).ownBlock → ((slv t2).ownBlock = (Value.slice vA vn vc).ownBlock ∨ ∃ b, (slv t2).ownBlock = some b ∧ w'.heap.size ≤ b) →
      PS w0 (w1.setCell ⟨gp, 4, none⟩ (slv t2)) gp gt f t0 { g1 with vs := g1.vs ++ [((none, 0, 0), [])], vo := t2 } := fun w' w1 t2 ok h' ho hb hg hat => h'.view_made hf4 ho hb (by rw [hvo1]; exact hg) (by rw [hvo1]; exact hat)
  have HJ1 := Aside0.mk hCell2
  have HJ2 := Aside0.mk hGrown2
  have HJ3 := Aside0.mk hOut
  have HJ4 := Aside0.mk hView
  have HE1 := Aside0.mk hg1
  have HE2 := Aside0.mk hvn
  generalize w5.setCell ⟨gr, k, none⟩ (.slice A1 (xs.length + 1) c1) = w6 at HV ⊢
  clear hv6 hCell2 hGrown2 hOut hView hg1 hvo1 hvs1 HG HW2 hfz HH1 HH2 HH3 HH4 HH5 ht1
  go_upto_region 2 with fail
  refine start_ (n := 16) (S := (fun w' => w'.cell? ⟨gp, 4, none⟩ = some (.slice vA vn vc) ∧ w'.cell? ⟨gp, 0, none⟩ = some (.func (.func 26) #[] #[]))) (ds := [15]) #[false, false, false, false, false, false, false, false, false, false, false, false, false, false, false, false] (by kernel_rfl) rfl rfl (HJ1.out w6 HV.out) (fun hHeld => ?_); refine with_tabW M35b_tab M35b_bits (fun HT_ HW_ => ?_)
  have HV2 := Aside0.mk (show PS w0 w6.drew gp gt f t0 g1 from HV.out.below (Drawn0.below ⟨⟨1, rfl⟩⟩))
  clear HV
  generalize w6.drew = w7 at HV2 hHeld ⊢
  refine pure_ (i := 0) (N := some 29) (v := ?_) (a' := ?_) #[true, false, false, false, false, false, false, false, false, false, false, false, false, false, false, false] rfl rfl (any_of HT_.out (by kernel_rfl)) (fun _ _ _ h => h) (Or.inl ⟨by rfl, ?_⟩) ?_ ?_
  rotate_left
  · intro w'
    go_simp
    with_reducible rfl
  rotate_left
  · simp only [Act.put, List.setIfInBounds_toArray, List.set_cons_zero, List.set_cons_succ, i64_w, i32_w]
    rfl
  refine pure_ (i := 1) (N := some 30) (v := ?_) (a' := ?_) #[true, true, false, false, false, false, false, false, false, false, false, false, false, false, false, false] rfl rfl (any_of HT_.out (by kernel_rfl)) (fun _ _ _ h => h) (Or.inl ⟨by rfl, ?_⟩) ?_ ?_
  rotate_left
  · intro w'
    go_simp
    with_reducible rfl
  rotate_left
  · simp only [Act.put, List.setIfInBounds_toArray, List.set_cons_zero, List.set_cons_succ, i64_w, i32_w]
    rfl
  refine pure_ (i := 2) (N := some 31) (v := ?_) (a' := ?_) #[true, true, true, false, false, false, false, false, false, false, false, false, false, false, false, false] rfl rfl (any_of HT_.out (by kernel_rfl)) (fun _ _ _ h => h) (Or.inl ⟨by rfl, ?_⟩) ?_ ?_
  rotate_left
  · intro w'
    go_simp
    with_reducible rfl
  rotate_left
  · simp only [Act.put, List.setIfInBounds_toArray, List.set_cons_zero, List.set_cons_succ, i64_w, i32_w]
    rfl
  refine pure_ (i := 3) (N := some 32) (v := ?_) (a' := ?_) #[true, true, true, true, false, false, false, false, false, false, false, false, false, false, false, false] rfl rfl (any_of HT_.out (by kernel_rfl)) (fun _ _ _ h => h) (Or.inl ⟨by rfl, ?_⟩) ?_ ?_
  rotate_left
  · intro w'
    go_simp
    with_reducible rfl
  rotate_left
  · simp only [Act.put, List.setIfInBounds_toArray, List.set_cons_zero, List.set_cons_succ, i64_w, i32_w]
    rfl
  refine take_ (i := 4) (N := some 33) (v := ?_) (a' := ?_) #[true, true, true, true, true, false, false, false, false, false, false, false, false, false, false, false] rfl rfl (take_ofW HT_.out HW_.out (by kernel_rfl)) (fun _ _ _ h => h) (Or.inl ⟨by rfl, ?_⟩) hHeld ?_ ?_
  rotate_left
  · rintro w' ⟨s0, s1⟩
    go_simp
    with_reducible rfl
  rotate_left
  · simp only [Act.put, List.setIfInBounds_toArray, List.set_cons_zero, List.set_cons_succ, i64_w, i32_w]
    rfl
  refine pure_ (i := 5) (N := some 34) (v := ?_) (a' := ?_) #[true, true, true, true, true, true, false, false, false, false, false, false, false, false, false, false] rfl rfl (any_of HT_.out (by kernel_rfl)) (fun _ _ _ h => h) (Or.inl ⟨by rfl, ?_⟩) ?_ ?_
  rotate_left
  · intro w'
    go_simp
    with_reducible rfl
  rotate_left
  · simp only [Act.put, List.setIfInBounds_toArray, List.set_cons_zero, List.set_cons_succ, i64_w, i32_w]
    rfl
  refine pure_ (i := 6) (N := some 35) (v := ?_) (a' := ?_) #[true, true, true, true, true, true, true, false, false, false, false, false, false, false, false, false] rfl rfl (any_of HT_.out (by kernel_rfl)) (fun _ _ _ h => h) (Or.inl ⟨by rfl, ?_⟩) ?_ ?_
  rotate_left
  · intro w'
    go_simp
    with_reducible rfl
  rotate_left
  · simp only [Act.put, List.setIfInBounds_toArray, List.set_cons_zero, List.set_cons_succ, i64_w, i32_w]
    rfl
  refine pure_ (i := 7) (N := some 36) (v := ?_) (a' := ?_) #[true, true, true, true, true, true, true, true, false, false, false, false, false, false, false, false] rfl rfl (any_of HT_.out (by kernel_rfl)) (fun _ _ _ h => h) (Or.inl ⟨by rfl, ?_⟩) ?_ ?_
  rotate_left
  · intro w'
    go_simp
    with_reducible rfl
  rotate_left
  · simp only [Act.put, List.setIfInBounds_toArray, List.set_cons_zero, List.set_cons_succ, i64_w, i32_w]
    rfl
  refine pure_ (i := 8) (N := some 37) (v := ?_) (a' := ?_) #[true, true, true, true, true, true, true, true, true, false, false, false, false, false, false, false] rfl rfl (any_of HT_.out (by kernel_rfl)) (fun _ _ _ h => h) (Or.inl ⟨by rfl, ?_⟩) ?_ ?_
  rotate_left
  · intro w'
    go_simp
    with_reducible rfl
  rotate_left
  · simp only [Act.put, List.setIfInBounds_toArray, List.set_cons_zero, List.set_cons_succ, i64_w, i32_w]
    rfl
  refine take_ (i := 9) (N := some 38) (v := ?_) (a' := ?_) #[true, true, true, true, true, true, true, true, true, true, false, false, false, false, false, false] rfl rfl (take_ofW HT_.out HW_.out (by kernel_rfl)) (fun _ _ _ h => h) (Or.inl ⟨by rfl, ?_⟩) hHeld ?_ ?_
  rotate_left
  · rintro w' ⟨s0, s1⟩
    go_simp
    with_reducible rfl
  rotate_left
  · simp only [Act.put, List.setIfInBounds_toArray, List.set_cons_zero, List.set_cons_succ, i64_w, i32_w]
    rfl
  refine one_ (i := 10) (N := some 39) #[true, true, true, true, true, true, true, true, true, true, true, false, false, false, false, false] rfl rfl (one_of HT_.out (by kernel_rfl)) (by decide) (fun K hK => ?_)
  refine goesV_ Try.func26 (by kernel_rfl) rfl #[] (by rfl) rfl rfl rfl (by (try simp only [List.map_toArray, List.map_cons, List.map_nil]); first | done | rfl) ?_
  with_reducible refine (fresh_calls w7).mono ?_
  rintro e w8 ⟨rfl, hd⟩
  have HV3 := Aside0.mk (HV2.out.below hd.below)
  clear hd HV2
  refine ⟨_, rfl, ?_⟩
  refine hK.out _ _ (HJ1.out w8 HV3.out) (fun hHeld => ?_)
  clear hK K
  refine norm_ (a' := ?_) ?_ ?_
  rotate_left
  · show Act.put _ (some 39) _ = _
    simp only [Act.put, List.setIfInBounds_toArray, List.set_cons_zero, List.set_cons_succ, i64_w, i32_w]
    rfl
  refine one_ (i := 11) (N := some 40) #[true, true, true, true, true, true, true, true, true, true, true, true, false, false, false, false] rfl rfl (one_of HT_.out (by kernel_rfl)) (by decide) (fun K hK => ?_)
  refine value_ (w1 := ?_) (v := ?_) (by rfl) rfl ?_ ?_
  rotate_left 2
  · go_simp
    constructor
    · rfl
    · rfl
  refine hK.out _ _ (HJ1.out _ (HV3.out.below (below_alloc (Below.refl _ _) _))) (fun hHeld => ?_)
  clear hK K
  refine norm_ (a' := ?_) ?_ ?_
  rotate_left
  · show Act.put _ (some 40) _ = _
    simp only [Act.put, List.setIfInBounds_toArray, List.set_cons_zero, List.set_cons_succ, i64_w, i32_w]
    rfl
  refine one_ (i := 12) (N := some 41) #[true, true, true, true, true, true, true, true, true, true, true, true, true, false, false, false] rfl rfl (one_of HT_.out (by kernel_rfl)) (by decide) (fun K hK => ?_)
  refine Kd.R_append_step kSl (w0 := w0) w0.heap.size (by rfl) (.tmp 33) (.tmp 40) 37 28 (.slice none 0 0) 24 rfl Try.underlying37 infoV rfl (by decide) (by omega) (.slice vA vn vc) (g1.vs.map (·.1)) (none, 0, 0) [.slice none 0 0] (fun b => (Value.slice vA vn vc).ownBlock = some b ∨ w8.heap.size ≤ b) (fun _ => False) rfl rfl ?aP (fun _ hk => hk.elim) ?aF ?aO ?aB ?aS ?aL ?_
  (case aP => exact rfl)
  (case aB => exact HV3.out.hb)
  (case aF => exact (fun k_ hk => .inr hk))
  (case aO => exact HJ3.out w8 HV3.out)
  (case aS => exact (below_size HV3.out.hb))
  (case aL => rw [List.length_map]; have := HL1.out; omega)
  intro v2 w9 ho hb hg hat
  obtain ⟨A2, c2, rfl, _, _⟩ := Kd.R_reads ho
  have HG2 := Aside0.mk (And.intro ho (And.intro hb (And.intro hg hat)))
  clear ho hb hg hat
  refine hK.out _ _ ((HJ2.out w8 w9 HV3.out HG2.out.2.2.1).1) (fun hHeld => ?_)
  clear hK K
  refine norm_ (a' := ?_) ?_ ?_
  rotate_left
  · show Act.put _ (some 41) _ = _
    simp only [Act.put, List.setIfInBounds_toArray, List.set_cons_zero, List.set_cons_succ, i64_w, i32_w]
    rfl
  refine pure_ (i := 13) (N := some 42) (v := ?_) (a' := ?_) #[true, true, true, true, true, true, true, true, true, true, true, true, true, true, false, false] rfl rfl (any_of HT_.out (by kernel_rfl)) (fun _ _ _ h => h) (Or.inl ⟨by rfl, ?_⟩) ?_ ?_
  rotate_left
  · intro w'
    go_simp
    with_reducible rfl
  rotate_left
  · simp only [Act.put, List.setIfInBounds_toArray, List.set_cons_zero, List.set_cons_succ, i64_w, i32_w]
    rfl
  refine pure_ (i := 14) (N := some 43) (v := ?_) (a' := ?_) #[true, true, true, true, true, true, true, true, true, true, true, true, true, true, true, false] rfl rfl (any_of HT_.out (by kernel_rfl)) (fun _ _ _ h => h) (Or.inl ⟨by rfl, ?_⟩) ?_ ?_
  rotate_left
  · intro w'
    go_simp
    with_reducible rfl
  rotate_left
  · simp only [Act.put, List.setIfInBounds_toArray, List.set_cons_zero, List.set_cons_succ, i64_w, i32_w]
    rfl
  have hfz := (HJ2.out w8 w9 HV3.out HG2.out.2.2.1).2
  refine last_ (i := 15) (N := none) #[true, true, true, true, true, true, true, true, true, true, true, true, true, true, true, true] rfl rfl (one_of HT_.out (by kernel_rfl)) (by decide) (fun K hK => ?_)
  refine skip_ (w1 := ?_) (by rfl) rfl ?_ ?_
  rotate_left
  · go_simp
    rfl
  refine hK.out _ _ ?_
  clear hK K
  refine done_ (done_of HT_.out (by kernel_rfl)) ?_
  clear HT_ HW_ hHeld

  have F := HJ4.out w8 w9 (A2, (g1.vs.map (fun h : Hd => h.1) ++ [((none, 0, 0) : Sl)]).length, c2) _ HV3.out HG2.out.1 HG2.out.2.1 HG2.out.2.2.1 HG2.out.2.2.2
  have hl : (g1.vs.map (fun h : Hd => h.1) ++ [((none, 0, 0) : Sl)]).length = g1.vs.length + 1 := by simp
  rw [hl] at F
  have HFin := Aside0.mk F
  clear F hl
  go_wp2
  go_end0
  refine ⟨rfl, HI.out t1 (A2, g1.vs.length + 1, c2) _ ?_⟩
  have F := HFin.out
  have e1 := HE1.out
  have e2 := HE2.out
  clear HFin HI HE1 HE2 HJ1 HJ2 HJ3 HJ4 HG2 HV3
  subst e1 e2
  exact F
end Go.Proofs.Ytamfkglnejhjdaa.PlayState
