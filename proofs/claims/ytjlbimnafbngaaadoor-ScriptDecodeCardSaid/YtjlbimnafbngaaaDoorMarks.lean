/- Marked lists among the rows; scripts that are one: what the law ScriptEncode needs. -/
import Derived.Test.YtjlbimnafbngaaaDoorRows
import Derived.Test.YtjlbimnafbngaaaDoorWMore
import Derived.WalkKit
import Derived.Deep.LoopGhost
import Derived.Lib.Hide
import Derived.Test.YtjlbimnafbngaaaDoorSame
import Derived.Test.YtjlbimnafbngaaaDoorFam
import Derived.Test.YtjlbimnafbngaaaDoorBitMath
namespace Go.Proofs.YtjlbimnafbngaaaDoor.Mark
open Go.RowKit Go.Proofs.YtjlbimnafbngaaaDoorW.PrintWords

/-- A slice of n numbers at the head of a row of the call's own that holds one number more. -/
def Marked (W : World) (base g n cap : Nat) (ys : List Int) : Prop := ys.length = n + 1 ∧ W.ownsRow base 3 1 (.slice (some ⟨g, 0, none⟩) (n + 1) cap) (n + 1) (nums .i64 ys)
theorem Marked.block {W : World} {base g n cap : Nat} {ys : List Int} (h : Marked W base g n cap ys) : base ≤ g ∧ g < W.heap.size := h.2.lt g rfl
theorem Marked.cap {W : World} {base g n cap : Nat} {ys : List Int} (h : Marked W base g n cap ys) : n + 1 ≤ cap ∧ cap ≤ maxLen := by
  rcases h.2.2 with ⟨_, h0⟩ | ⟨g', cap', cur, he, _, _, h1, h2, _⟩
  · omega
  · injection he with _ _ he
    omega
theorem Marked.below {W W' : World} {base g n cap : Nat} {ys : List Int} (h : Marked W base g n cap ys) (hb : Below W.heap.size W W') : Marked W' base g n cap ys := ⟨h.1, pw_own_below h.2 hb⟩
theorem Marked.cell {W : World} {base g n cap : Nat} {ys : List Int} (h : Marked W base g n cap ys) (i : Nat) (hi : i < n + 1) : W.cell? ⟨g, i, none⟩ = some (.int .i64 (ys.getD i 0)) ∧ W.frozen? ⟨g, i, none⟩ = false := by
  have := own_at h.2 (i : Int) (by omega) (by omega)
  simpa [rd] using this
/-- What is read of it as a slice of n. -/
theorem Marked.reads {W : World} {base g n cap : Nat} {ys : List Int} (h : Marked W base g n cap ys) : Kd.C (Kd.int .i64) W (some ⟨g, 0, none⟩) (ys.take n).length (ys.take n) := by
  have hl : (ys.take n).length = n := by rw [List.length_take, h.1]; omega
  have hm : n ≤ 9223372036854775807 := by have := h.cap; unfold maxLen at this; omega
  refine Kd.C_of_reads (d := 0) ⟨rfl, by omega, fun _ => ⟨_, rfl, fun j hj => ?_⟩⟩
  rw [hl] at hj
  rw [add_plain, (h.cell j (by omega)).1]
  simp [List.getD_eq_getElem?_getD, hj]

end Go.Proofs.YtjlbimnafbngaaaDoor.Mark
namespace Go.Proofs.YtjlbimnafbngaaaDoor.Enc
open Go.RowKit Go.Proofs.YtjlbimnafbngaaaDoorW.PrintWords Go.Proofs.YtjlbimnafbngaaaDoorW.PrintLast Go.Proofs.YtjlbimnafbngaaaDoorW.PrintMore Go.Proofs.YtjlbimnafbngaaaDoor.BitMath Go.Proofs.YtjlbimnafbngaaaDoor.PScriptEncode Go.Proofs.YtjlbimnafbngaaaDoor.Fam
theorem same_loop (l : List Int) (hm : l.length ≤ 9223372036854775806) (d : Nat) : ∀ (i k : Nat), i + d = l.length → d < k → plunderlaw10_same.l0 k l l (i : Int) = some true := by
  induction d with
  | zero =>
    intro i k hi hk
    obtain ⟨k, rfl⟩ : ∃ m, k = m + 1 := ⟨k - 1, by omega⟩
    simp only [plunderlaw10_same.l0]
    rw [if_neg (by omega)]
  | succ d ih =>
    intro i k hi hk
    obtain ⟨k, rfl⟩ : ∃ m, k = m + 1 := ⟨k - 1, by omega⟩
    simp only [plunderlaw10_same.l0]
    rw [if_pos (by omega), if_pos (by omega), if_pos (by omega), if_pos trivial, wrap_id (a := (i : Int) + 1) (by unfold In64; omega)]
    exact ih (i + 1) k (by omega) (by omega)
theorem script_same (l m : List Int) (k : Nat) (hl : l.length < k) (hm : m.length < k) (hk : k ≤ 9223372036854775806) : plunderlaw10_sameScript.f k l m l m = some true := by
  unfold plunderlaw10_sameScript.f plunderlaw10_same.f
  rw [if_pos rfl, show plunderlaw10_same.l0 k l l 0 = some true from same_loop l (by omega) l.length 0 k (by omega) (by omega)]
  simp only [Option.bind_some, if_true]
  rw [show plunderlaw10_same.l0 k m m 0 = some true from same_loop m (by omega) m.length 0 k (by omega) (by omega)]
  rfl
theorem same_calls (A0 A1 B0 B1 : Option Addr) (n m c0 c1 k0 k1 : Nat) (q d : List Int) (w : World) (hq : q.length = n) (hd : d.length = m) (hC0 : Kd.C (Kd.int .i64) w A0 q.length q) (hc0 : n ≤ c0) (hC1 : Kd.C (Kd.int .i64) w A1 d.length d) (hc1 : m ≤ c1)
    (hD0 : Kd.C (Kd.int .i64) w B0 q.length q) (hk0 : n ≤ k0) (hD1 : Kd.C (Kd.int .i64) w B1 d.length d) (hk1 : m ≤ k1) (hn : n < 17592186044416) (hm : m < 17592186044416) :
    Calls Tryd.prog 10 #[.agg #[.slice A0 n c0, .slice A1 m c1], .agg #[.slice B0 n k0, .slice B1 m k1]] w fun e w' => e = .returned (.bool true) ∧ Below w.heap.size w w' := by
  subst hq hd
  exact plunderlaw10_sameScript.calls 17592186044417 A0 c0 q A1 c1 d B0 k0 q B1 k1 d true w hC0 hc0 hC1 hc1 hD0 hk0 hD1 hk1 (script_same q d _ (by omega) (by omega) (by omega))

end Go.Proofs.YtjlbimnafbngaaaDoor.Enc
