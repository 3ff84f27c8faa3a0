/- The argument of the reducer's laws: a game: deeds, which continuations are stolen, picks: opened to three lists. -/
import Derived.Lib.SmallJoins
import Derived.SizedLaws
import Derived.ChangeSame
import Derived.Test.YtamfkglnejhjdaaDoorWWords
import Derived.Test.YtamfkglnejhjdaaDoorWMore
import Derived.Test.YtamfkglnejhjdaaDoorBitMath
import Derived.Test.YtamfkglnejhjdaaDoorRows
import Derived.Test.YtamfkglnejhjdaaDoorSerA
namespace Go.Proofs.YtamfkglnejhjdaaDoor.Open
open Go.ChangeShapes Go.WideShapes Go.Deep Go.Joins Go.RowKit Go.Proofs.YtamfkglnejhjdaaDoorW.PrintWords

theorem list_of {α : Type} {Q : Nat → α → Prop} (n : Nat) (h : ∀ i, i < n → ∃ x, Q i x) : ∃ l : List α, l.length = n ∧ ∀ (i : Nat) (x : α), l[i]? = some x → Q i x := by
  induction n with
  | zero => exact ⟨[], rfl, fun i x h => by simp at h⟩
  | succ n ih =>
    obtain ⟨l, hl, hq⟩ := ih (fun i hi => h i (by omega))
    obtain ⟨x, hx⟩ := h n (by omega)
    refine ⟨l ++ [x], by simp [hl], fun i y hy => ?_⟩
    rcases Nat.lt_or_ge i n with hi | hi
    · rw [List.getElem?_append_left (by omega)] at hy
      exact hq i y hy
    · have hi2 := (List.getElem?_eq_some_iff.1 hy).1
      simp at hi2
      obtain rfl : i = n := by omega
      rw [List.getElem?_append_right (by omega), hl, Nat.sub_self] at hy
      simp at hy
      subst hy
      exact hx
section
variable {H : Type} {enc : TypeId × Value → H} {P : Program} {w : World} {base : Nat} {spare : Nat → Bool} {held : Bool} {α : Type}
/-- A slice that came in, by its elements' kind. -/
theorem open_row {d : Kd α} {t e : TypeId} {fuel : Nat} {A : Option Addr} {n c : Nat} {x : DataW H × List MemPlace} (ht : P.underlying t = some (.slice e)) (hc : P.cellsOf e = d.sz)
    (hop : ∀ fuel cs y, DataW.trod enc P w base spare held fuel e cs = some y → ∃ x : α, d.K w x cs) (h : DataW.trod enc P w base spare held fuel t [.slice A n c] = some x) :
    ∃ l : List α, l.length = n ∧ n ≤ c ∧ d.C w A l.length l ∧ ((x.1 = .nil ∧ n = 0) ∨ ∃ elems sp, x.1 = .slice elems sp ∧ elems.length = n) := by
  rcases open_slice ht h with ⟨hcs, hx⟩ | ⟨a, len, cap, m, f, D, Pl, hcs, hb, hl, hm, hmm, hx, hi⟩
  · simp at hcs
    obtain ⟨rfl, rfl, rfl⟩ := hcs
    exact ⟨[], rfl, Nat.le_refl _, ⟨rfl, by simp, fun h => absurd h (Nat.lt_irrefl 0)⟩, .inl ⟨by rw [hx], rfl⟩⟩
  · simp at hcs
    obtain ⟨rfl, rfl, rfl⟩ := hcs
    have hle : n ≤ m := by rw [hmm]; split <;> omega
    obtain ⟨l, hll, hq⟩ := list_of (Q := fun i (x : α) => ∃ cs', (cs'.length = d.sz ∧ ∀ j, j < d.sz → w.cell? ((a.add (i * d.sz)).add j) = cs'[j]?) ∧ d.K w x cs') n (fun i hin => by
      obtain ⟨cs', h1, h2⟩ := hi i (by omega)
      obtain ⟨y, hy⟩ := hop _ _ _ h2
      obtain ⟨_, h3, h4⟩ := World.cells?_some h1
      rw [hc] at h3 h4
      exact ⟨y, cs', ⟨h3, h4⟩, hy⟩)
    refine ⟨l, hll, hl, ⟨rfl, by rw [hll]; simp only [maxLen] at hm; omega, fun _ => ⟨a, rfl, fun j p hj => ?_⟩⟩, .inr ⟨_, _, by rw [hx], by simp⟩⟩
    obtain ⟨cs', ⟨h3, h4⟩, hK⟩ := hq j p hj
    refine ⟨cs', h3, hK, fun i u hu => ?_⟩
    have hil := (List.getElem?_eq_some_iff.1 hu).1
    rw [← Deep.add_add, h4 i (by omega), hu]
/-- A slice that came in, by its elements' kind. -/
theorem open_row_in {d : Kd α} {t e : TypeId} {fuel : Nat} {A : Option Addr} {n c : Nat} {x : DataW H × List MemPlace} (ht : P.underlying t = some (.slice e)) (hc : P.cellsOf e = d.sz)
    {G : α → Prop} (hop : ∀ fuel cs y, DataW.trod enc P w base spare held fuel e cs = some y → ∃ x : α, d.K w x cs ∧ G x) (h : DataW.trod enc P w base spare held fuel t [.slice A n c] = some x) :
    ∃ l : List α, l.length = n ∧ n ≤ c ∧ d.C w A l.length l ∧ (∀ x, x ∈ l → G x) ∧ ((x.1 = .nil ∧ n = 0) ∨ ∃ elems sp, x.1 = .slice elems sp ∧ elems.length = n) := by
  rcases open_slice ht h with ⟨hcs, hx⟩ | ⟨a, len, cap, m, f, D, Pl, hcs, hb, hl, hm, hmm, hx, hi⟩
  · simp at hcs
    obtain ⟨rfl, rfl, rfl⟩ := hcs
    exact ⟨[], rfl, Nat.le_refl _, ⟨rfl, by simp, fun h => absurd h (Nat.lt_irrefl 0)⟩, (fun x hx => by cases hx), .inl ⟨by rw [hx], rfl⟩⟩
  · simp at hcs
    obtain ⟨rfl, rfl, rfl⟩ := hcs
    have hle : n ≤ m := by rw [hmm]; split <;> omega
    obtain ⟨l, hll, hq⟩ := list_of (Q := fun i (x : α) => ∃ cs', (cs'.length = d.sz ∧ ∀ j, j < d.sz → w.cell? ((a.add (i * d.sz)).add j) = cs'[j]?) ∧ d.K w x cs' ∧ G x) n (fun i hin => by
      obtain ⟨cs', h1, h2⟩ := hi i (by omega)
      obtain ⟨y, hy⟩ := hop _ _ _ h2
      obtain ⟨_, h3, h4⟩ := World.cells?_some h1
      rw [hc] at h3 h4
      exact ⟨y, cs', ⟨h3, h4⟩, hy⟩)
    refine ⟨l, hll, hl, ⟨rfl, by rw [hll]; simp only [maxLen] at hm; omega, fun _ => ⟨a, rfl, fun j p hj => ?_⟩⟩, (fun x hx2 => by obtain ⟨j, hj⟩ := List.mem_iff_getElem?.1 hx2; obtain ⟨_, _, _, hg⟩ := hq j x hj; exact hg), .inr ⟨_, _, by rw [hx], by simp⟩⟩
    obtain ⟨cs', ⟨h3, h4⟩, hK, _⟩ := hq j p hj
    refine ⟨cs', h3, hK, fun i u hu => ?_⟩
    have hil := (List.getElem?_eq_some_iff.1 hu).1
    rw [← Deep.add_add, h4 i (by omega), hu]
theorem open_int_in {k : IntKind} {e : TypeId} (he : P.underlying e = some (.int k)) (fuel : Nat) (cs : List Value) (y : DataW H × List MemPlace) (h : DataW.trod enc P w base spare held fuel e cs = some y) : ∃ x : Int, (Kd.int k).K w x cs ∧ (Lit.int k x).wf = true := by
  obtain ⟨n, hn, _, hw⟩ := DataW.trod_int he h
  exact ⟨n, hn, hw⟩
theorem open_bool_el {e : TypeId} (he : P.underlying e = some .bool) (fuel : Nat) (cs : List Value) (y : DataW H × List MemPlace) (h : DataW.trod enc P w base spare held fuel e cs = some y) : ∃ x : Bool, Kd.bool.K w x cs := by
  obtain ⟨n, hn, _⟩ := DataW.trod_bool he h
  exact ⟨n, hn⟩
end
end Go.Proofs.YtamfkglnejhjdaaDoor.Open
namespace Go.Proofs.YtamfkglnejhjdaaDoor.GameOpen
open Go.ChangeShapes Go.WideShapes Go.Deep Go.Joins Go.RowKit Go.Proofs.YtamfkglnejhjdaaDoorW.PrintWords Go.Proofs.YtamfkglnejhjdaaDoor.PHyperFold Go.Proofs.YtamfkglnejhjdaaDoor.Open

/-- What a slice's datum says of its length. -/
def Long {H : Type} (x : DataW H) (n : Nat) : Prop := (x = .nil ∧ n = 0) ∨ ∃ elems sp, x = .slice elems sp ∧ elems.length = n
theorem bulk_pos {H : Type} (d : DataW H) : 1 ≤ Rows.uptoBulk d := by
  cases d with
  | lit l => cases l <;> simp [Rows.uptoBulk]
  | _ => simp [Rows.uptoBulk]
theorem bulk_len {H : Type} (l : List (DataW H)) : l.length ≤ Rows.uptoBulkAll l := by
  induction l with
  | nil => simp [Rows.uptoBulkAll]
  | cons d l ih => have := bulk_pos d; simp only [Rows.uptoBulkAll, List.length_cons]; omega
theorem long_bulk {H : Type} {x : DataW H} {n : Nat} (h : Long x n) : n ≤ Rows.uptoBulk x := by
  rcases h with ⟨_, rfl⟩ | ⟨elems, sp, rfl, rfl⟩
  · omega
  · have := bulk_len elems; simp only [Rows.uptoBulk]; omega
section
variable {H : Type} {enc : TypeId × Value → H} {W : World} {b0 base : Nat} {spare : Nat → Bool} {held : Bool}
set_option maxRecDepth 100000 in
theorem open_S46 (fuel : Nat) (cs : List Value) (y : DataW H × List MemPlace) (h : DataW.trod enc Tryd.prog W base spare held fuel 46 cs = some y) : ∃ x : S46, k46.K W x cs ∧ BitMath.In64 x.f1 := by
  obtain ⟨y0, y1, n, _, hl, h0, h1⟩ := trod_struct2 Tryd.underlying46 h
  have hC : Tryd.prog.cellsOf 46 = 2 := by kernel_rfl
  rw [hC] at hl
  obtain ⟨a, e0, _⟩ := DataW.trod_int Tryd.underlying3 h0
  obtain ⟨b, e1, _, hwf⟩ := DataW.trod_int Tryd.underlying2 h1
  have hin := BitMath.in64_of_wf hwf
  clear hwf
  have hc3 : Tryd.prog.cellsOf 3 = 1 := by kernel_rfl
  have hc2 : Tryd.prog.cellsOf 2 = 1 := by kernel_rfl
  match cs, hl with
  | [c0, c1], _ =>
    simp [hc3] at e0
    simp [hc2] at e1
    subst e0 e1
    exact ⟨⟨a, b⟩, k46_mk W ⟨a, b⟩, hin⟩
set_option maxRecDepth 100000 in
theorem open_game {v : Value} {d : DataW H} {p : List MemPlace} (hv : Value.okWide Tryd.prog W .any b0 26 v) (h : DataW.Trod enc Tryd.prog W base spare held 26 v d p) :
    ∃ (A0 : Option Addr) (c0 : Nat) (l0 : List S46) (A1 : Option Addr) (c1 : Nat) (l1 : List Bool) (A2 : Option Addr) (c2 : Nat) (l2 : List Int), v = .agg #[.slice A0 l0.length c0, .slice A1 l1.length c1, .slice A2 l2.length c2] ∧
      Kd.C k46 W A0 l0.length l0 ∧ l0.length ≤ c0 ∧ Kd.C Kd.bool W A1 l1.length l1 ∧ l1.length ≤ c1 ∧ Kd.C (Kd.int .i64) W A2 l2.length l2 ∧ l2.length ≤ c2 ∧ (∀ x, x ∈ l0 → BitMath.In64 x.f1) ∧
      ∃ d0 d1 d2 : DataW H, d = .agg [d0, d1, d2] ∧ Long d0 l0.length ∧ Long d1 l1.length ∧ Long d2 l2.length := by
  obtain ⟨v0, v1, v2, y0, y1, y2, n, rfl, hd, hp, h0, h1, h2⟩ := open_agg3 Tryd.underlying26 (by kernel_rfl) (by kernel_rfl) hv h
  obtain ⟨A0, n0, c0, e0⟩ := slice_form Tryd.underlying22 h0
  obtain ⟨A1, n1, c1, e1⟩ := slice_form Tryd.underlying23 h1
  obtain ⟨A2, n2, c2, e2⟩ := slice_form Tryd.underlying24 h2
  obtain rfl := List.head_eq_of_cons_eq e0
  obtain rfl := List.head_eq_of_cons_eq e1
  obtain rfl := List.head_eq_of_cons_eq e2
  obtain ⟨l0, rfl, hc0, hC0, hg0, hx0⟩ := open_row_in (d := k46) Tryd.underlying22 (by kernel_rfl) open_S46 h0
  obtain ⟨l1, rfl, hc1, hC1, _, hx1⟩ := open_row_in (d := Kd.bool) (G := fun _ => True) Tryd.underlying23 (by kernel_rfl) (fun fuel cs y h => (open_bool_el Tryd.underlying4 fuel cs y h).imp fun _ h => ⟨h, trivial⟩) h1
  obtain ⟨l2, rfl, hc2, hC2, _, hx2⟩ := open_row_in (d := Kd.int .i64) Tryd.underlying24 (by kernel_rfl) (open_int_in Tryd.underlying3) h2
  exact ⟨A0, c0, l0, A1, c1, l1, A2, c2, l2, rfl, hC0, hc0, hC1, hc1, hC2, hc2, hg0, y0.1, y1.1, y2.1, hd, hx0, hx1, hx2⟩
theorem bulk_game {d0 d1 d2 : DataW H} {pre : List (DataW H)} {n0 n1 n2 : Nat} (hk : Rows.uptoSmall H (pre ++ [.agg [d0, d1, d2]]) = true) (h0 : Long d0 n0) (h1 : Long d1 n1) (h2 : Long d2 n2) : n0 ≤ 1048576 ∧ n1 ≤ 1048576 ∧ n2 ≤ 1048576 := by
  have hk2 : Rows.uptoBulkAll (pre ++ [(.agg [d0, d1, d2] : DataW H)]) ≤ 1048576 := of_decide_eq_true hk
  have hk3 : Rows.uptoBulkAll [(.agg [d0, d1, d2] : DataW H)] ≤ Rows.uptoBulkAll (pre ++ [(.agg [d0, d1, d2] : DataW H)]) := by
    clear hk hk2
    induction pre with
    | nil => exact Nat.le_refl _
    | cons d pre ih => simp only [List.cons_append, Rows.uptoBulkAll] at ih ⊢; omega
  simp only [Rows.uptoBulkAll, Rows.uptoBulk] at hk3
  have := long_bulk h0
  have := long_bulk h1
  have := long_bulk h2
  omega
end
end Go.Proofs.YtamfkglnejhjdaaDoor.GameOpen
