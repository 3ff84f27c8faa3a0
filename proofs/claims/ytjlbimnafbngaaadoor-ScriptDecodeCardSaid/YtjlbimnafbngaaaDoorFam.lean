/- Rows of whole numbers that lie apart, and objects beside them: how each step moves them. -/
import Derived.Test.YtjlbimnafbngaaaDoorKeep
import Derived.Test.YtjlbimnafbngaaaDoorWKept
namespace Go.Proofs.YtjlbimnafbngaaaDoor.Fam
open Go.RowKit Go.Proofs.YtjlbimnafbngaaaDoorW.PrintWords

/-- Two values do not share a block. -/
def Ap (v u : Value) : Prop := v.ownBlock = none ∨ v.ownBlock ≠ u.ownBlock
theorem Ap.symm {v u : Value} (h : Ap v u) : Ap u v := by
  unfold Ap at *
  cases hu : u.ownBlock with
  | none => exact .inl rfl
  | some b =>
    refine .inr fun e => ?_
    rcases h with h | h
    · rw [h] at e; cases e
    · exact h (by rw [hu]; exact e.symm)
structure Fam (k : IntKind) (e : Nat) (w : World) (base : Nat) (L : List (Value × List Int)) : Prop where
  own : ∀ p, p ∈ L → w.ownsRow base e 1 p.1 p.2.length (encs (Value.int k) p.2)
  apart : L.Pairwise (fun p q => Ap p.1 q.1)
section
variable {k : IntKind} {e : Nat} {w w1 : World} {base : Nat} {L : List (Value × List Int)} {v v1 : Value} {xs xs1 : List Int} {i : Nat}
theorem Fam.nil (w : World) (base : Nat) : Fam k e w base [] := ⟨(fun p h => by cases h), .nil⟩
theorem Fam.lt (h : Fam k e w base L) {p : Value × List Int} (hp : p ∈ L) {b : Nat} (hb : p.1.ownBlock = some b) : base ≤ b ∧ b < w.heap.size := ⟨own_base (h.own p hp) b hb, own_lt (h.own p hp) b hb⟩
theorem Fam.R (h : Fam k e w base L) {p : Value × List Int} (hp : p ∈ L) : (Kd.int k).R e w base (fun b => p.1.ownBlock = some b) p.1 p.2 := Kd.R_of_own (h.own p hp) (fun _ hb => hb)
theorem Fam.moved (h : Fam k e w base L) (hk : ∀ b, b < w.heap.size → (∃ p, p ∈ L ∧ p.1.ownBlock = some b) → w1.heap[b]? = w.heap[b]?) : Fam k e w1 base L :=
  ⟨fun p hp => own_move (h.own p hp) (fun b hb => hk b (h.lt hp hb).2 ⟨p, hp, hb⟩), h.apart⟩
theorem Fam.below (h : Fam k e w base L) (hb : Below w.heap.size w w1) : Fam k e w1 base L := h.moved (fun b hlt _ => hb.block b hlt)
/-- A block of another type is written. -/
theorem Fam.far (h : Fam k e w base L) {g t : Nat} {cells : Array Value} (hg : w.heap[g]? = some (.cells cells t (0, 0))) (ht : e ≠ t) (hk : ∀ b, b < w.heap.size → b ≠ g → w1.heap[b]? = w.heap[b]?) : Fam k e w1 base L :=
  h.moved (fun b hlt ⟨p, hp, hb⟩ => hk b hlt (by
    rintro rfl
    obtain ⟨cells', hc⟩ := own_typed (h.own p hp) b hb
    rw [hg] at hc
    injection hc with hc
    injection hc with _ hc
    exact ht hc.symm))
theorem pairwise_set {α : Type} {R : α → α → Prop} (hs : ∀ a b, R a b → R b a) : ∀ (L : List α) (i : Nat) (x : α), L.Pairwise R → (∀ j y, j ≠ i → L[j]? = some y → R x y) → (L.set i x).Pairwise R
  | [], i, x, h, _ => by simp
  | a :: L, 0, x, h, hx => by
    rw [List.pairwise_cons] at h
    rw [List.set_cons_zero, List.pairwise_cons]
    exact ⟨fun y hy => by
      obtain ⟨j, hj⟩ := List.mem_iff_getElem?.1 hy
      exact hx (j + 1) y (by omega) (by simpa using hj), h.2⟩
  | a :: L, i + 1, x, h, hx => by
    rw [List.pairwise_cons] at h
    rw [List.set_cons_succ, List.pairwise_cons]
    refine ⟨fun y hy => ?_, pairwise_set hs L i x h.2 (fun j y hj hy => hx (j + 1) y (by omega) (by simpa using hy))⟩
    rcases List.mem_or_eq_of_mem_set hy with hy | rfl
    · exact h.1 y hy
    · exact hs _ _ (hx 0 a (by omega) rfl)
/-- Row i is written, or made anew; all else stays. -/
theorem Fam.put (h : Fam k e w base L) (hi : L[i]? = some (v, xs)) (hown : w1.ownsRow base e 1 v1 xs1.length (encs (Value.int k) xs1)) (hk : ∀ b, b < w.heap.size → v.ownBlock ≠ some b → w1.heap[b]? = w.heap[b]?)
    (hat : v1.ownBlock = v.ownBlock ∨ v1.ownBlock = none ∨ ∃ b, v1.ownBlock = some b ∧ w.heap.size ≤ b) : Fam k e w1 base (L.set i (v1, xs1)) := by
  have hne : ∀ j y, j ≠ i → L[j]? = some y → Ap v y.1 := fun j y hj hy => by
    have hp := List.pairwise_iff_getElem.1 h.apart
    obtain ⟨hi1, hi2⟩ := List.getElem?_eq_some_iff.1 hi
    obtain ⟨hj1, hj2⟩ := List.getElem?_eq_some_iff.1 hy
    rcases Nat.lt_or_gt_of_ne hj with hlt | hlt
    · have := hp j i hj1 hi1 hlt
      rw [hi2, hj2] at this
      exact this.symm
    · have := hp i j hi1 hj1 hlt
      rw [hi2, hj2] at this
      exact this
  refine ⟨fun p hp => ?_, pairwise_set (fun _ _ h => h.symm) L i _ h.apart (fun j y hj hy => ?_)⟩
  · obtain ⟨j, hj⟩ := List.mem_iff_getElem?.1 hp
    by_cases e : i = j
    · subst e
      have hlt := (List.getElem?_eq_some_iff.1 hi).1
      rw [List.getElem?_set_self hlt] at hj
      injection hj with hj
      subst hj
      exact hown
    · rw [List.getElem?_set_ne e] at hj
      have hm : p ∈ L := List.mem_iff_getElem?.2 ⟨j, hj⟩
      refine own_move (h.own p hm) (fun b hb => hk b (h.lt hm hb).2 (fun e2 => ?_))
      rcases hne j p (Ne.symm e) hj with h1 | h1
      · rw [h1] at e2; cases e2
      · exact h1 (by rw [e2, hb])
  · have hm : y ∈ L := List.mem_iff_getElem?.2 ⟨j, hy⟩
    unfold Ap
    rcases hat with h1 | h1 | ⟨b, h1, h2⟩
    · rw [h1]; exact hne j y hj hy
    · exact .inl h1
    · refine .inr fun e2 => ?_
      rw [h1] at e2
      have := (h.lt hm e2.symm).2
      omega
/-- A row that is new. -/
theorem Fam.add (h : Fam k e w base L) (hown : w1.ownsRow base e 1 v1 xs1.length (encs (Value.int k) xs1)) (hk : ∀ b, b < w.heap.size → w1.heap[b]? = w.heap[b]?) (hat : ∀ b, v1.ownBlock = some b → w.heap.size ≤ b) : Fam k e w1 base (L ++ [(v1, xs1)]) := by
  refine ⟨fun p hp => ?_, ?_⟩
  · rcases List.mem_append.1 hp with hp | hp
    · exact own_move (h.own p hp) (fun b hb => hk b (h.lt hp hb).2)
    · rw [List.mem_singleton] at hp
      subst hp
      exact hown
  · rw [List.pairwise_append]
    refine ⟨h.apart, by simp, fun a ha b hb => ?_⟩
    rw [List.mem_singleton] at hb
    subst hb
    unfold Ap
    cases hv : a.1.ownBlock with
    | none => exact .inl rfl
    | some g =>
      refine .inr fun e2 => ?_
      have h1 := (h.lt ha hv).2
      have h2 := hat g e2.symm
      omega
theorem Fam.two (h : Fam k e w base (L ++ [(v, xs)])) (h1 : Fam k e w base (L ++ [(v1, xs1)])) (hap : Ap v v1) : Fam k e w base (L ++ [(v, xs), (v1, xs1)]) := by
  refine ⟨fun p hp => ?_, ?_⟩
  · simp only [List.mem_append, List.mem_cons, List.not_mem_nil, or_false] at hp
    rcases hp with hp | rfl | rfl
    · exact h.own p (by simp [hp])
    · exact h.own _ (by simp)
    · exact h1.own _ (by simp)
  · have a1 := List.pairwise_append.1 h.apart
    have a2 := List.pairwise_append.1 h1.apart
    rw [List.pairwise_append]
    refine ⟨a1.1, by simp [hap], fun a ha b hb => ?_⟩
    simp only [List.mem_cons, List.not_mem_nil, or_false] at hb
    rcases hb with rfl | rfl
    · exact a1.2.2 a ha _ (by simp)
    · exact a2.2.2 a ha _ (by simp)
end

/-- Objects of one type, and rows beside them, all made since w0. -/
structure HS (t : Nat) (w0 w : World) (O : List (Nat × Array Value)) (L : List (Value × List Int)) : Prop where
  hb : Below w0.heap.size w0 w
  obj : ∀ p, p ∈ O → w.heap[p.1]? = some (.cells p.2 t (0, 0)) ∧ w0.heap.size ≤ p.1
  dis : O.Pairwise (fun p q => p.1 ≠ q.1)
  fam : Fam .i64 3 w w0.heap.size L
section
variable {t : Nat} {w0 w w1 : World} {O : List (Nat × Array Value)} {L : List (Value × List Int)} {v v1 : Value} {xs xs1 : List Int} {i : Nat} {g : Nat} {cs : Array Value}
theorem HS.below (h : HS t w0 w O L) (hb : Below w.heap.size w w1) : HS t w0 w1 O L :=
  ⟨below_step h.hb hb, fun p hp => ⟨blk_below (h.obj p hp).1 hb, (h.obj p hp).2⟩, h.dis, h.fam.below hb⟩
theorem HS.drawn (h : HS t w0 w O L) (m : Nat) (e : w.drewN m = w1) : HS t w0 w1 O L := by subst e; exact h.below (Drawn0.below ⟨⟨m, rfl⟩⟩)
theorem HS.new (h : HS t w0 w O L) (cs : Array Value) : HS t w0 (w.alloc (.cells cs t)) (O ++ [(w.heap.size, cs)]) L := by
  have h1 := h.below (below_alloc (Below.refl w.heap.size w) (.cells cs t))
  refine ⟨h1.hb, fun p hp => ?_, ?_, h1.fam⟩
  · rcases List.mem_append.1 hp with hp | hp
    · exact h1.obj p hp
    · rw [List.mem_singleton] at hp
      subst hp
      exact ⟨blk_new w _, below_size h.hb⟩
  · rw [List.pairwise_append]
    refine ⟨h.dis, by simp, fun a ha b hb => ?_⟩
    rw [List.mem_singleton] at hb
    subst hb
    have := blk_lt (h.obj a ha).1
    simp only
    omega
/-- A row that a call has made. -/
theorem HS.made (h : HS t w0 w O L) {ok : Nat → Prop} (hr : (Kd.int .i64).R 3 w1 w.heap.size ok v xs) (hb : Below w.heap.size w w1) : HS t w0 w1 O (L ++ [(v, xs)]) := by
  have h1 := h.below hb
  exact ⟨h1.hb, h1.obj, h1.dis, h.fam.add (own_less (Kd.own_of_R hr) (below_size h.hb)) (fun b hlt => hb.block b hlt) (fun b hv => own_base (Kd.own_of_R hr) b hv)⟩
/-- Row i is written, or made anew. -/
theorem HS.put (h : HS t w0 w O L) (ht : 3 ≠ t) (hi : L[i]? = some (v, xs)) (hown : w1.ownsRow w0.heap.size 3 1 v1 xs1.length (encs (Value.int .i64) xs1)) (hb : Below w0.heap.size w0 w1) (hk : ∀ b, b < w.heap.size → v.ownBlock ≠ some b → w1.heap[b]? = w.heap[b]?)
    (hat : v1.ownBlock = v.ownBlock ∨ v1.ownBlock = none ∨ ∃ b, v1.ownBlock = some b ∧ w.heap.size ≤ b) : HS t w0 w1 O (L.set i (v1, xs1)) := by
  have hm : (v, xs) ∈ L := List.mem_iff_getElem?.2 ⟨i, hi⟩
  refine ⟨hb, fun p hp => ⟨(hk p.1 (blk_lt (h.obj p hp).1) (fun e => ?_)).trans (h.obj p hp).1, (h.obj p hp).2⟩, h.dis, h.fam.put hi hown hk hat⟩
  obtain ⟨cells, hc⟩ := own_typed (h.fam.own _ hm) p.1 e
  rw [(h.obj p hp).1] at hc
  injection hc with hc
  injection hc with _ hc
  exact ht hc.symm
/-- .. by a call that was given it to write. -/
theorem HS.given (h : HS t w0 w O L) (ht : 3 ≠ t) (hi : L[i]? = some (v, xs)) {ok : Nat → Prop} (hr : (Kd.int .i64).R 3 w1 w0.heap.size ok v1 xs1) (hok : ∀ b, ok b → v.ownBlock = some b ∨ w.heap.size ≤ b) (hb : Below w0.heap.size w0 w1) (hk : Kept w w1 (fun b => v.ownBlock = some b)) : HS t w0 w1 O (L.set i (v1, xs1)) := by
  refine h.put ht hi (Kd.own_of_R hr) hb (fun b hlt hne => hk.2 b hlt hne) ?_
  cases hv : v1.ownBlock with
  | none => exact .inr (.inl rfl)
  | some b =>
    rcases hok b (hr.1 b hv) with h1 | h1
    · exact .inl h1.symm
    · exact .inr (.inr ⟨b, rfl, h1⟩)
theorem HS.reads (h : HS t w0 w O L) (hi : L[i]? = some (v, xs)) : ∃ A c, v = .slice A xs.length c ∧ xs.length ≤ c ∧ (Kd.int .i64).C w A xs.length xs := Kd.R_reads (h.fam.R (List.mem_iff_getElem?.2 ⟨i, hi⟩))
theorem HS.C {A : Option Addr} {n c : Nat} (h : HS t w0 w O L) (hi : L[i]? = some (.slice A n c, xs)) : n = xs.length ∧ n ≤ c ∧ (Kd.int .i64).C w A xs.length xs := Kd.R_reads' (h.fam.R (List.mem_iff_getElem?.2 ⟨i, hi⟩))
theorem HS.R (h : HS t w0 w O L) (hi : L[i]? = some (v, xs)) : (Kd.int .i64).R 3 w w0.heap.size (fun b => v.ownBlock = some b) v xs := h.fam.R (p := (v, xs)) (List.mem_iff_getElem?.2 ⟨i, hi⟩)
end
end Go.Proofs.YtjlbimnafbngaaaDoor.Fam
