/- The argument of the script laws: a script: picks, draws: opened to two lists. -/
import Derived.Test.YtjlbimnafbngaaaOpen
import Derived.Test.YtjlbimnafbngaaaRows
namespace Go.Proofs.Ytjlbimnafbngaaa.ScriptOpen
open Go.ChangeShapes Go.WideShapes Go.Deep Go.Joins Go.RowKit Go.Proofs.YtjlbimnafbngaaaW.PrintWords Go.Proofs.Ytjlbimnafbngaaa.Open

/-- What a slice's datum says of its length. -/
def Long {H : Type} (x : DataW H) (n : Nat) : Prop := (x = .nil ∧ n = 0) ∨ ∃ elems sp, x = .slice elems sp ∧ elems.length = n
theorem bulk_pos {H : Type} (d : DataW H) : 1 ≤ Rows.uptoBulk d := by
  cases d with
  | lit l => cases l <;> simp [Rows.uptoBulk]
  | _ => simp [Rows.uptoBulk]
theorem bulk_len {H : Type} (l : List (DataW H)) : l.length ≤ Rows.uptoBulkAll l := by
  induction l with
  | nil => simp [Rows.uptoBulkAll]
  | cons d l ih => have := bulk_pos d; simp only [Rows.uptoBulkAll, List.length_cons]; omega
theorem long_bulk {H : Type} {x : DataW H} {n : Nat} (h : Long x n) : n ≤ Rows.uptoBulk x := by
  rcases h with ⟨_, rfl⟩ | ⟨elems, sp, rfl, rfl⟩
  · omega
  · have := bulk_len elems; simp only [Rows.uptoBulk]; omega
section
variable {H : Type} {enc : TypeId × Value → H} {W : World} {b0 base : Nat} {spare : Nat → Bool} {held : Bool}
theorem open_script {v : Value} {d : DataW H} {p : List MemPlace} (hv : Value.okWide Try.prog W .any b0 24 v) (h : DataW.Trod enc Try.prog W base spare held 24 v d p) :
    ∃ (A0 : Option Addr) (c0 : Nat) (l0 : List Int) (A1 : Option Addr) (c1 : Nat) (l1 : List Int), v = .agg #[.slice A0 l0.length c0, .slice A1 l1.length c1] ∧
      Kd.C (Kd.int .i64) W A0 l0.length l0 ∧ l0.length ≤ c0 ∧ Kd.C (Kd.int .i64) W A1 l1.length l1 ∧ l1.length ≤ c1 ∧
      ∃ d0 d1 : DataW H, d = .agg [d0, d1] ∧ Long d0 l0.length ∧ Long d1 l1.length := by
  obtain ⟨v0, v1, y0, y1, n, rfl, hd, hp, h0, h1⟩ := open_agg2 Try.underlying24 (by kernel_rfl) (by kernel_rfl) hv h
  obtain ⟨A0, n0, c0, e0⟩ := slice_form Try.underlying22 h0
  obtain ⟨A1, n1, c1, e1⟩ := slice_form Try.underlying22 h1
  obtain rfl := List.head_eq_of_cons_eq e0
  obtain rfl := List.head_eq_of_cons_eq e1
  obtain ⟨l0, rfl, hc0, hC0, hx0⟩ := open_row (d := Kd.int .i64) Try.underlying22 (by kernel_rfl) (open_int_el Try.underlying3) h0
  obtain ⟨l1, rfl, hc1, hC1, hx1⟩ := open_row (d := Kd.int .i64) Try.underlying22 (by kernel_rfl) (open_int_el Try.underlying3) h1
  exact ⟨A0, c0, l0, A1, c1, l1, rfl, hC0, hc0, hC1, hc1, y0.1, y1.1, hd, hx0, hx1⟩
theorem bulk_script {d0 d1 : DataW H} {ds : List (DataW H)} {n0 n1 : Nat} (hk : Rows.uptoSmall H (.agg [d0, d1] :: ds) = true) (h0 : Long d0 n0) (h1 : Long d1 n1) : n0 ≤ 1048576 ∧ n1 ≤ 1048576 := by
  have hk2 : Rows.uptoBulkAll ((.agg [d0, d1] : DataW H) :: ds) ≤ 1048576 := of_decide_eq_true hk
  simp only [Rows.uptoBulkAll, Rows.uptoBulk] at hk2
  have := long_bulk h0
  have := long_bulk h1
  omega
end
end Go.Proofs.Ytjlbimnafbngaaa.ScriptOpen
