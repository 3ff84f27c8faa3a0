/- A row's slices, and structs of them, opened by their kinds: the lists that they hold, and how long these may be. -/
import Derived.Lib.SmallJoins
import Derived.SizedLaws
import Derived.ChangeSame
import Derived.Test.YtamfkglnejhjdaaDoorWWords
import Derived.Test.YtamfkglnejhjdaaDoorWMore
namespace Go.Proofs.YtamfkglnejhjdaaDoor.Open
open Go.ChangeShapes Go.WideShapes Go.Deep Go.Joins Go.RowKit Go.Proofs.YtamfkglnejhjdaaDoorW.PrintWords

theorem list_of {α : Type} {Q : Nat → α → Prop} (n : Nat) (h : ∀ i, i < n → ∃ x, Q i x) : ∃ l : List α, l.length = n ∧ ∀ (i : Nat) (x : α), l[i]? = some x → Q i x := by
  induction n with
  | zero => exact ⟨[], rfl, fun i x h => by simp at h⟩
  | succ n ih =>
    obtain ⟨l, hl, hq⟩ := ih (fun i hi => h i (by omega))
    obtain ⟨x, hx⟩ := h n (by omega)
    refine ⟨l ++ [x], by simp [hl], fun i y hy => ?_⟩
    rcases Nat.lt_or_ge i n with hi | hi
    · rw [List.getElem?_append_left (by omega)] at hy
      exact hq i y hy
    · have hi2 := (List.getElem?_eq_some_iff.1 hy).1
      simp at hi2
      obtain rfl : i = n := by omega
      rw [List.getElem?_append_right (by omega), hl, Nat.sub_self] at hy
      simp at hy
      subst hy
      exact hx
section
variable {H : Type} {enc : TypeId × Value → H} {P : Program} {w : World} {base : Nat} {spare : Nat → Bool} {held : Bool} {α : Type}
/-- A slice that came in, by its elements' kind. -/
theorem open_row {d : Kd α} {t e : TypeId} {fuel : Nat} {A : Option Addr} {n c : Nat} {x : DataW H × List MemPlace} (ht : P.underlying t = some (.slice e)) (hc : P.cellsOf e = d.sz)
    (hop : ∀ fuel cs y, DataW.trod enc P w base spare held fuel e cs = some y → ∃ x : α, d.K w x cs) (h : DataW.trod enc P w base spare held fuel t [.slice A n c] = some x) :
    ∃ l : List α, l.length = n ∧ n ≤ c ∧ d.C w A l.length l ∧ ((x.1 = .nil ∧ n = 0) ∨ ∃ elems sp, x.1 = .slice elems sp ∧ elems.length = n) := by
  rcases open_slice ht h with ⟨hcs, hx⟩ | ⟨a, len, cap, m, f, D, Pl, hcs, hb, hl, hm, hmm, hx, hi⟩
  · simp at hcs
    obtain ⟨rfl, rfl, rfl⟩ := hcs
    exact ⟨[], rfl, Nat.le_refl _, ⟨rfl, by simp, fun h => absurd h (Nat.lt_irrefl 0)⟩, .inl ⟨by rw [hx], rfl⟩⟩
  · simp at hcs
    obtain ⟨rfl, rfl, rfl⟩ := hcs
    have hle : n ≤ m := by rw [hmm]; split <;> omega
    obtain ⟨l, hll, hq⟩ := list_of (Q := fun i (x : α) => ∃ cs', (cs'.length = d.sz ∧ ∀ j, j < d.sz → w.cell? ((a.add (i * d.sz)).add j) = cs'[j]?) ∧ d.K w x cs') n (fun i hin => by
      obtain ⟨cs', h1, h2⟩ := hi i (by omega)
      obtain ⟨y, hy⟩ := hop _ _ _ h2
      obtain ⟨_, h3, h4⟩ := World.cells?_some h1
      rw [hc] at h3 h4
      exact ⟨y, cs', ⟨h3, h4⟩, hy⟩)
    refine ⟨l, hll, hl, ⟨rfl, by rw [hll]; simp only [maxLen] at hm; omega, fun _ => ⟨a, rfl, fun j p hj => ?_⟩⟩, .inr ⟨_, _, by rw [hx], by simp⟩⟩
    obtain ⟨cs', ⟨h3, h4⟩, hK⟩ := hq j p hj
    refine ⟨cs', h3, hK, fun i u hu => ?_⟩
    have hil := (List.getElem?_eq_some_iff.1 hu).1
    rw [← Deep.add_add, h4 i (by omega), hu]
/-- A slice that came in, by its elements' kind. -/
theorem open_row_in {d : Kd α} {t e : TypeId} {fuel : Nat} {A : Option Addr} {n c : Nat} {x : DataW H × List MemPlace} (ht : P.underlying t = some (.slice e)) (hc : P.cellsOf e = d.sz)
    {G : α → Prop} (hop : ∀ fuel cs y, DataW.trod enc P w base spare held fuel e cs = some y → ∃ x : α, d.K w x cs ∧ G x) (h : DataW.trod enc P w base spare held fuel t [.slice A n c] = some x) :
    ∃ l : List α, l.length = n ∧ n ≤ c ∧ d.C w A l.length l ∧ (∀ x, x ∈ l → G x) ∧ ((x.1 = .nil ∧ n = 0) ∨ ∃ elems sp, x.1 = .slice elems sp ∧ elems.length = n) := by
  rcases open_slice ht h with ⟨hcs, hx⟩ | ⟨a, len, cap, m, f, D, Pl, hcs, hb, hl, hm, hmm, hx, hi⟩
  · simp at hcs
    obtain ⟨rfl, rfl, rfl⟩ := hcs
    exact ⟨[], rfl, Nat.le_refl _, ⟨rfl, by simp, fun h => absurd h (Nat.lt_irrefl 0)⟩, (fun x hx => by cases hx), .inl ⟨by rw [hx], rfl⟩⟩
  · simp at hcs
    obtain ⟨rfl, rfl, rfl⟩ := hcs
    have hle : n ≤ m := by rw [hmm]; split <;> omega
    obtain ⟨l, hll, hq⟩ := list_of (Q := fun i (x : α) => ∃ cs', (cs'.length = d.sz ∧ ∀ j, j < d.sz → w.cell? ((a.add (i * d.sz)).add j) = cs'[j]?) ∧ d.K w x cs' ∧ G x) n (fun i hin => by
      obtain ⟨cs', h1, h2⟩ := hi i (by omega)
      obtain ⟨y, hy⟩ := hop _ _ _ h2
      obtain ⟨_, h3, h4⟩ := World.cells?_some h1
      rw [hc] at h3 h4
      exact ⟨y, cs', ⟨h3, h4⟩, hy⟩)
    refine ⟨l, hll, hl, ⟨rfl, by rw [hll]; simp only [maxLen] at hm; omega, fun _ => ⟨a, rfl, fun j p hj => ?_⟩⟩, (fun x hx2 => by obtain ⟨j, hj⟩ := List.mem_iff_getElem?.1 hx2; obtain ⟨_, _, _, hg⟩ := hq j x hj; exact hg), .inr ⟨_, _, by rw [hx], by simp⟩⟩
    obtain ⟨cs', ⟨h3, h4⟩, hK, _⟩ := hq j p hj
    refine ⟨cs', h3, hK, fun i u hu => ?_⟩
    have hil := (List.getElem?_eq_some_iff.1 hu).1
    rw [← Deep.add_add, h4 i (by omega), hu]
theorem open_int_in {k : IntKind} {e : TypeId} (he : P.underlying e = some (.int k)) (fuel : Nat) (cs : List Value) (y : DataW H × List MemPlace) (h : DataW.trod enc P w base spare held fuel e cs = some y) : ∃ x : Int, (Kd.int k).K w x cs ∧ (Lit.int k x).wf = true := by
  obtain ⟨n, hn, _, hw⟩ := DataW.trod_int he h
  exact ⟨n, hn, hw⟩
theorem open_bool_el {e : TypeId} (he : P.underlying e = some .bool) (fuel : Nat) (cs : List Value) (y : DataW H × List MemPlace) (h : DataW.trod enc P w base spare held fuel e cs = some y) : ∃ x : Bool, Kd.bool.K w x cs := by
  obtain ⟨n, hn, _⟩ := DataW.trod_bool he h
  exact ⟨n, hn⟩
end
end Go.Proofs.YtamfkglnejhjdaaDoor.Open
