/- What can be drawn from: the statement's counter, a *Drawer that is nil, a seeded drawer. -/
import Derived.Test.YtjlbimnafbngaaaPull
namespace Go.Proofs.Ytjlbimnafbngaaa.Pull
open Go.RowKit Go.Proofs.YtjlbimnafbngaaaW.PrintWords Go.Proofs.YtjlbimnafbngaaaW.PrintLast Go.Proofs.Ytjlbimnafbngaaa.PScriptNoise

theorem cell_of {W : World} {g t : Nat} {v : Value} (h : W.heap[g]? = some (.cells #[v] t (0, 0))) : W.cell? ⟨g, 0, none⟩ = some v := (blk_cell h 0).trans rfl

set_option maxHeartbeats 2000000 in
set_option maxRecDepth 100000 in
theorem counter_draw (g : Nat) (x : Int) (w0 w : World) (hb : w.heap[g]? = some (.cells #[.int .i64 x] 38 (0, 0))) (hg : w0.heap.size ≤ g) (hB : Below w0.heap.size w0 w) :
    Calls Try.prog 82 #[.pointer (some ⟨g, 0, none⟩)] w fun e w' => e = .returned (.int .i64 (wrap64 (10 * wrap64 (x + 1)))) ∧ w'.heap[g]? = some (.cells #[.int .i64 (wrap64 (x + 1))] 38 (0, 0)) ∧ Below w0.heap.size w0 w' ∧ Kept w w' (fun k => k = g) := by
  have hc := cell_of hb
  have hf := blk_frozen hb 0
  have HB := Aside0.mk hB
  have HG := Aside0.mk hb
  have HE := Aside0.mk hg
  clear hB hb hg
  go_enter Try.func82, Try.ntmps82
  go_wp2
  go_ret
  exact ⟨rfl, blk_put HG.out 0 _ rfl, HB.out.setCell (p := ⟨g, 0, none⟩) HE.out _, (Kept.refl w (fun k => k = g)).setCell (p := ⟨g, 0, none⟩) (.inl rfl) _⟩

theorem eq_func (fn : Fn) (a b : Array Value) (w : World) : Sem.run Try.prog (binOp .eql 45 (.func fn a b) .nilFunc) w = .ok (.bool false) w := by kernel_rfl
theorem eq_none (w : World) : Sem.run Try.prog (binOp .eql 45 .nilFunc .nilFunc) w = .ok (.bool true) w := by kernel_rfl
def counterNext (x : Int) : Int × Int := (wrap64 (10 * wrap64 (x + 1)), wrap64 (x + 1))
theorem counter_src (w0 : World) (g : Nat) (hg : w0.heap.size ≤ g) : Src w0 36 82 (.pointer (some ⟨g, 0, none⟩)) counterNext (fun w x => w.heap[g]? = some (.cells #[.int .i64 x] 38 (0, 0))) (fun k => k = g) where
  finds := fun w => by kernel_rfl
  enters := fun args w => by kernel_rfl
  step := fun w x hB hD => (counter_draw g x w0 w hD hg hB).mono (fun e w' h => h)
  keep := fun w w' x ok hD hk hS => blk_kept hD hk (hS g rfl)

set_option maxHeartbeats 2000000 in
set_option maxRecDepth 100000 in
theorem nobody_draw (w : World) : Calls Try.prog 28 #[.pointer none] w fun e w' => e = .returned (.int .i64 0) ∧ Drawn0 w w' := by
  go_enter Try.func28, Try.ntmps28
  go_wp2
  go_ret
  exact ⟨rfl, Drawn0.refl _⟩
set_option maxHeartbeats 2000000 in
set_option maxRecDepth 100000 in
theorem unmade_draw (w : World) (g : Nat) (hb : w.heap[g]? = some (.cells #[.nilFunc] 58 (0, 0))) : Calls Try.prog 28 #[.pointer (some ⟨g, 0, none⟩)] w fun e w' => e = .returned (.int .i64 0) ∧ Drawn0 w w' := by
  have hc := cell_of hb
  have hf := blk_frozen hb 0
  have hq := eq_none
  clear hb
  go_enter Try.func28, Try.ntmps28
  go_wp2
  go_ret
  exact ⟨rfl, Drawn0.refl _⟩
theorem nobody_src (w0 : World) : Src w0 40 28 (.pointer none) (fun _ : Unit => (0, ())) (fun _ _ => True) (fun _ => False) where
  finds := fun w => by kernel_rfl
  enters := fun args w => by kernel_rfl
  step := fun w x hB hD => (nobody_draw w).mono (fun e w' h => ⟨h.1, trivial, below_step hB h.2.below, Kept.of_below h.2.below _⟩)
  keep := fun w w' x ok hD hk hS => trivial

def nextNum (s0_0 : Int) : Int × Int := ((wrap64 ((wrap64 (s0_0 * 6543210987654321773)) + 1234567890123456789)) / 8589934592, wrap64 ((wrap64 (s0_0 * 6543210987654321773)) + 1234567890123456789))
set_option maxHeartbeats 2000000 in
set_option maxRecDepth 100000 in
theorem seeded_draw (d g : Nat) (x : Int) (w0 w : World) (hb : w.heap[d]? = some (.cells #[.func (.func 48) #[.pointer (some ⟨g, 0, none⟩)] #[]] 58 (0, 0))) (hI : IsS70 w0 w g x) (hB : Below w0.heap.size w0 w) :
    Calls Try.prog 28 #[.pointer (some ⟨d, 0, none⟩)] w fun e w' => e = .returned (.int .i64 (nextNum x).1) ∧ IsS70 w0 w' g (nextNum x).2 ∧ Below w0.heap.size w0 w' ∧ KeepBut w w' g none := by
  have hc := cell_of hb
  have hf := blk_frozen hb 0
  have hq := eq_func
  have HC := Aside0.mk (script_seeded_number.calls g x _ _ w0 w hI hB rfl)
  clear hb hI hB
  go_enter Try.func28, Try.ntmps28
  go_wp2_with fail
  refine (HC.out).mono ?_
  rintro e w' ⟨rfl, h2, h3, h4⟩
  go_wp2
  go_ret
  exact ⟨rfl, h2, h3, h4⟩
/-- A seeded drawer: its two blocks. -/
def SeededAt (w0 : World) (d g : Nat) (w : World) (x : Int) : Prop := w.heap[d]? = some (.cells #[.func (.func 48) #[.pointer (some ⟨g, 0, none⟩)] #[]] 58 (0, 0)) ∧ IsS70 w0 w g x
theorem seeded_step (w0 : World) (d g : Nat) (w : World) (x : Int) (hB : Below w0.heap.size w0 w) (hD : SeededAt w0 d g w x) :
    Calls Try.prog 28 #[.pointer (some ⟨d, 0, none⟩)] w fun e w' => e = .returned (.int .i64 (nextNum x).1) ∧ SeededAt w0 d g w' (nextNum x).2 ∧ Below w0.heap.size w0 w' ∧ Kept w w' (fun k => k = d ∨ k = g) :=
  (seeded_draw d g x w0 w hD.1 hD.2 hB).mono (fun e w' ⟨h1, h2, h3, h4⟩ => ⟨h1, ⟨(h4.2 d (blk_lt hD.1) (blk_ne hD.1 hD.2.1 (by decide)) (by simp)).trans hD.1, h2⟩, h3, Kept.of_keep (Kept.refl w _) h4 (.inl (.inr rfl))⟩)
theorem seeded_src (w0 : World) (d g : Nat) : Src w0 40 28 (.pointer (some ⟨d, 0, none⟩)) nextNum (SeededAt w0 d g) (fun k => k = d ∨ k = g) where
  finds := fun w => by kernel_rfl
  enters := fun args w => by kernel_rfl
  step := fun w x hB hD => seeded_step w0 d g w x hB hD
  keep := fun w w' x ok hD hk hS => ⟨blk_kept hD.1 hk (hS d (.inl rfl)), hD.2.kept hk (hS g (.inr rfl))⟩
set_option maxHeartbeats 2000000 in
set_option maxRecDepth 100000 in
theorem seeded_calls (x : Int) (w0 w : World) (hB : Below w0.heap.size w0 w) :
    Calls Try.prog 26 #[.int .i64 x] w fun e w' => ∃ d g, e = .returned (.pointer (some ⟨d, 0, none⟩)) ∧ SeededAt w0 d g w' x ∧ w.heap.size ≤ d ∧ w.heap.size ≤ g ∧ Below w.heap.size w w' := by
  have hmf : ∀ (fn : Fn) (first cap : Array Value) (w : World), (Instr.makeFunc fn first cap).run Try.prog w = .ok (.func fn first cap) w := fun _ _ _ _ => rfl
  have HB := Aside0.mk hB
  clear hB
  go_enter Try.func26, Try.ntmps26
  go_wp2
  go_ret
  refine ⟨w.heap.size + 1, w.heap.size, rfl, ⟨?_, ⟨blk_below (blk_new w _) (below_alloc (Below.refl _ _) _), below_size HB.out⟩⟩, by omega, by omega, below_alloc (below_alloc (Below.refl _ _) _) _⟩
  have h1 := blk_new (w.alloc (.cells #[.int .i64 x] 70)) (.cells #[.func (.func 48) #[.pointer (some ⟨w.heap.size, 0, none⟩)] #[]] 58)
  rw [World.size_alloc] at h1
  exact h1
end Go.Proofs.Ytjlbimnafbngaaa.Pull
