/- The argument of the reducer's laws: a game: deeds, which continuations are stolen, picks: opened to three lists. -/
import Derived.Test.YtamfkglnejhjdaaDoorOpen
import Derived.Test.YtamfkglnejhjdaaDoorBitMath
import Derived.Test.YtamfkglnejhjdaaDoorRows
import Derived.Test.YtamfkglnejhjdaaDoorSerA
namespace Go.Proofs.YtamfkglnejhjdaaDoor.GameOpen
open Go.ChangeShapes Go.WideShapes Go.Deep Go.Joins Go.RowKit Go.Proofs.YtamfkglnejhjdaaDoorW.PrintWords Go.Proofs.YtamfkglnejhjdaaDoor.PHyperFold Go.Proofs.YtamfkglnejhjdaaDoor.Open

/-- What a slice's datum says of its length. -/
def Long {H : Type} (x : DataW H) (n : Nat) : Prop := (x = .nil ∧ n = 0) ∨ ∃ elems sp, x = .slice elems sp ∧ elems.length = n
section
variable {H : Type} {enc : TypeId × Value → H} {W : World} {b0 base : Nat} {spare : Nat → Bool} {held : Bool}
set_option maxRecDepth 100000 in
theorem open_S46 (fuel : Nat) (cs : List Value) (y : DataW H × List MemPlace) (h : DataW.trod enc Tryd.prog W base spare held fuel 46 cs = some y) : ∃ x : S46, k46.K W x cs ∧ BitMath.In64 x.f1 := by
  obtain ⟨y0, y1, n, _, hl, h0, h1⟩ := trod_struct2 Tryd.underlying46 h
  have hC : Tryd.prog.cellsOf 46 = 2 := by kernel_rfl
  rw [hC] at hl
  obtain ⟨a, e0, _⟩ := DataW.trod_int Tryd.underlying3 h0
  obtain ⟨b, e1, _, hwf⟩ := DataW.trod_int Tryd.underlying2 h1
  have hin := BitMath.in64_of_wf hwf
  clear hwf
  have hc3 : Tryd.prog.cellsOf 3 = 1 := by kernel_rfl
  have hc2 : Tryd.prog.cellsOf 2 = 1 := by kernel_rfl
  match cs, hl with
  | [c0, c1], _ =>
    simp [hc3] at e0
    simp [hc2] at e1
    subst e0 e1
    exact ⟨⟨a, b⟩, k46_mk W ⟨a, b⟩, hin⟩
set_option maxRecDepth 100000 in
theorem open_game {v : Value} {d : DataW H} {p : List MemPlace} (hv : Value.okWide Tryd.prog W .any b0 26 v) (h : DataW.Trod enc Tryd.prog W base spare held 26 v d p) :
    ∃ (A0 : Option Addr) (c0 : Nat) (l0 : List S46) (A1 : Option Addr) (c1 : Nat) (l1 : List Bool) (A2 : Option Addr) (c2 : Nat) (l2 : List Int), v = .agg #[.slice A0 l0.length c0, .slice A1 l1.length c1, .slice A2 l2.length c2] ∧
      Kd.C k46 W A0 l0.length l0 ∧ l0.length ≤ c0 ∧ Kd.C Kd.bool W A1 l1.length l1 ∧ l1.length ≤ c1 ∧ Kd.C (Kd.int .i64) W A2 l2.length l2 ∧ l2.length ≤ c2 ∧ (∀ x, x ∈ l0 → BitMath.In64 x.f1) ∧
      ∃ d0 d1 d2 : DataW H, d = .agg [d0, d1, d2] ∧ Long d0 l0.length ∧ Long d1 l1.length ∧ Long d2 l2.length := by
  obtain ⟨v0, v1, v2, y0, y1, y2, n, rfl, hd, hp, h0, h1, h2⟩ := open_agg3 Tryd.underlying26 (by kernel_rfl) (by kernel_rfl) hv h
  obtain ⟨A0, n0, c0, e0⟩ := slice_form Tryd.underlying22 h0
  obtain ⟨A1, n1, c1, e1⟩ := slice_form Tryd.underlying23 h1
  obtain ⟨A2, n2, c2, e2⟩ := slice_form Tryd.underlying24 h2
  obtain rfl := List.head_eq_of_cons_eq e0
  obtain rfl := List.head_eq_of_cons_eq e1
  obtain rfl := List.head_eq_of_cons_eq e2
  obtain ⟨l0, rfl, hc0, hC0, hg0, hx0⟩ := open_row_in (d := k46) Tryd.underlying22 (by kernel_rfl) open_S46 h0
  obtain ⟨l1, rfl, hc1, hC1, _, hx1⟩ := open_row_in (d := Kd.bool) (G := fun _ => True) Tryd.underlying23 (by kernel_rfl) (fun fuel cs y h => (open_bool_el Tryd.underlying4 fuel cs y h).imp fun _ h => ⟨h, trivial⟩) h1
  obtain ⟨l2, rfl, hc2, hC2, _, hx2⟩ := open_row_in (d := Kd.int .i64) Tryd.underlying24 (by kernel_rfl) (open_int_in Tryd.underlying3) h2
  exact ⟨A0, c0, l0, A1, c1, l1, A2, c2, l2, rfl, hC0, hc0, hC1, hc1, hC2, hc2, hg0, y0.1, y1.1, y2.1, hd, hx0, hx1, hx2⟩
end
end Go.Proofs.YtamfkglnejhjdaaDoor.GameOpen
