/- The state of script.Noise's loop: three rows of numbers of its own, the script's two fields, the seeded number: how each step moves it. -/
import Derived.Test.YtjlbimnafbngaaaMScriptNoisex1
namespace Go.Proofs.Ytjlbimnafbngaaa.Noise
open Go.RowKit Go.Proofs.YtjlbimnafbngaaaW.PrintWords Go.Proofs.Ytjlbimnafbngaaa.PScriptNoise

abbrev RI (w : World) (base : Nat) (ok : Nat → Prop) (v : Value) (l : List Int) : Prop := Kd.R (Kd.int .i64) 3 w base ok v l
structure NSt (w w' : World) (g8 g10 g70 : Nat) (vn vp vd : Value) (named ps ds : List Int) (x : Int) : Prop where
  hb : Below w.heap.size w w'
  b8 : w'.heap[g8]? = some (.cells #[.slice none 0 0, .slice none 0 0] 24 (0, 0))
  b10 : w'.heap[g10]? = some (.cells #[vp, vd] 24 (0, 0))
  b70 : IsS70 w w' g70 x
  rn : RI w' w.heap.size (fun k => some k ≠ vp.ownBlock ∧ some k ≠ vd.ownBlock) vn named
  rp : RI w' w.heap.size (fun k => some k ≠ vn.ownBlock ∧ some k ≠ vd.ownBlock) vp ps
  rd : RI w' w.heap.size (fun k => some k ≠ vn.ownBlock ∧ some k ≠ vp.ownBlock) vd ds
  ge8 : w.heap.size ≤ g8
  ge10 : w.heap.size ≤ g10
  ne : g8 ≠ g10

section
variable {w w' w1 : World} {g8 g10 g70 : Nat} {vn vp vd v1 : Value} {named ps ds : List Int} {x : Int}
theorem far_block {ok : Nat → Prop} {v : Value} {l : List Int} {base g t : Nat} {cells : Array Value} (h : RI w' base ok v l) (hb : w'.heap[g]? = some (.cells cells t (0, 0))) (ht : 3 ≠ t) : RI w' base (fun k => ok k ∧ k ≠ g) v l :=
  Kd.R_types h hb (fun q hq => by
    have : q = 3 := by simpa [Kd.int, Kd.scalar] using hq
    omega)
theorem blk_keepB {g g' : Nat} {o : Obj} (h : w'.heap[g']? = some o) (hk : KeepBut w' w1 g none) (hne : g' ≠ g) : w1.heap[g']? = some o := (hk.2 g' (blk_lt h) hne (by simp)).trans h
/-- Worlds where nothing that was there has changed. -/
theorem NSt.below (h : NSt w w' g8 g10 g70 vn vp vd named ps ds x) (hb : Below w'.heap.size w' w1) : NSt w w1 g8 g10 g70 vn vp vd named ps ds x :=
  ⟨below_step h.hb hb, blk_below h.b8 hb, blk_below h.b10 hb, h.b70.below hb, Kd.R_below h.rn hb, Kd.R_below h.rp hb, Kd.R_below h.rd hb, h.ge8, h.ge10, h.ne⟩
/-- A seeded number is drawn. -/
theorem NSt.number (h : NSt w w' g8 g10 g70 vn vp vd named ps ds x) {y : Int} (hi : IsS70 w w1 g70 y) (hb : Below w.heap.size w w1) (hk : KeepBut w' w1 g70 none) : NSt w w1 g8 g10 g70 vn vp vd named ps ds y := by
  have h70 := h.b70.1
  refine ⟨hb, blk_keepB h.b8 hk (blk_ne h.b8 h70 (by decide)), blk_keepB h.b10 hk (blk_ne h.b10 h70 (by decide)), hi, ?_, ?_, ?_, h.ge8, h.ge10, h.ne⟩
  · exact Kd.R_mono (Kd.R_keep (far_block h.rn h70 (by decide)) hk (fun _ hk => hk.2)) (fun _ hk => hk.1)
  · exact Kd.R_mono (Kd.R_keep (far_block h.rp h70 (by decide)) hk (fun _ hk => hk.2)) (fun _ hk => hk.1)
  · exact Kd.R_mono (Kd.R_keep (far_block h.rd h70 (by decide)) hk (fun _ hk => hk.2)) (fun _ hk => hk.1)
/-- One draw more, stored into the script's field. -/
theorem NSt.draw (h : NSt w w' g8 g10 g70 vn vp vd named ps ds x) {l : List Int} (ho : RI w1 w.heap.size (fun k => some k ≠ vn.ownBlock ∧ some k ≠ vp.ownBlock) v1 l) (hb : Below w.heap.size w w1) (hg : w'.grownBy w1 vd.ownBlock) (hat : v1.ownBlock = vd.ownBlock ∨ ∃ b, v1.ownBlock = some b ∧ w'.heap.size ≤ b) :
    NSt w (w1.setCell ⟨g10, 1, none⟩ v1) g8 g10 g70 vn vp v1 named ps l x := by
  have b10 := blk_grown h.b10 hg (Kd.R_ne h.rd h.b10 (by decide))
  have b8 := blk_grown h.b8 hg (Kd.R_ne h.rd h.b8 (by decide))
  have b70 := h.b70.grown hg (Kd.R_ne h.rd h.b70.1 (by decide))
  have rn := Kd.R_after (ok := fun k => some k ≠ vp.ownBlock) h.rn hg hat
  have rp := Kd.R_after (ok := fun k => some k ≠ vn.ownBlock) h.rp hg hat
  have h3 : ∀ q, q ∈ 3 :: (Kd.int .i64).E → q ≠ 24 := fun q hq => by
    have : q = 3 := by simpa [Kd.int, Kd.scalar] using hq
    omega
  exact ⟨hb.setCell (p := ⟨g10, 1, none⟩) h.ge10 _, blk_far b8 h.ne _, blk_put b10 1 v1 rfl, b70.far (blk_ne b70.1 b10 (by decide)) _, Kd.R_set rn b10 h3 1 v1, Kd.R_set rp b10 h3 1 v1, Kd.R_set ho b10 h3 1 v1, h.ge8, h.ge10, h.ne⟩
/-- One pick more, stored into the script's field. -/
theorem NSt.pick (h : NSt w w' g8 g10 g70 vn vp vd named ps ds x) {l : List Int} (ho : RI w1 w.heap.size (fun k => some k ≠ vn.ownBlock ∧ some k ≠ vd.ownBlock) v1 l) (hb : Below w.heap.size w w1) (hg : w'.grownBy w1 vp.ownBlock) (hat : v1.ownBlock = vp.ownBlock ∨ ∃ b, v1.ownBlock = some b ∧ w'.heap.size ≤ b) :
    NSt w (w1.setCell ⟨g10, 0, none⟩ v1) g8 g10 g70 vn v1 vd named l ds x := by
  have b10 := blk_grown h.b10 hg (Kd.R_ne h.rp h.b10 (by decide))
  have b8 := blk_grown h.b8 hg (Kd.R_ne h.rp h.b8 (by decide))
  have b70 := h.b70.grown hg (Kd.R_ne h.rp h.b70.1 (by decide))
  have rn := Kd.R_after (ok := fun k => some k ≠ vd.ownBlock) (Kd.R_mono h.rn (fun _ hk => ⟨hk.2, hk.1⟩)) hg hat
  have rd := Kd.R_after (ok := fun k => some k ≠ vn.ownBlock) h.rd hg hat
  have h3 : ∀ q, q ∈ 3 :: (Kd.int .i64).E → q ≠ 24 := fun q hq => by
    have : q = 3 := by simpa [Kd.int, Kd.scalar] using hq
    omega
  exact ⟨hb.setCell (p := ⟨g10, 0, none⟩) h.ge10 _, blk_far b8 h.ne _, blk_put b10 0 v1 rfl, b70.far (blk_ne b70.1 b10 (by decide)) _, Kd.R_set (Kd.R_mono rn (fun _ hk => ⟨hk.2, hk.1⟩)) b10 h3 0 v1, Kd.R_set ho b10 h3 0 v1, Kd.R_set rd b10 h3 0 v1, h.ge8, h.ge10, h.ne⟩
/-- The named worker's place is written. -/
theorem NSt.mark {g cap : Nat} (h : NSt w w' g8 g10 g70 (.slice (some ⟨g, 0, none⟩) named.length cap) vp vd named ps ds x) (i : Nat) (y : Int) :
    NSt w (w'.setCell ⟨g, i, none⟩ (.int .i64 y)) g8 g10 g70 (.slice (some ⟨g, 0, none⟩) (named.set i y).length cap) vp vd (named.set i y) ps ds x := by
  have ho := Kd.own_of_R h.rn
  have hst := (own_store (k := .i64) ho (i : Int) y).1
  rw [Int.toNat_natCast] at hst
  have hlt := Kd.R_base h.rn g rfl
  rw [List.length_set]
  have e8 : g8 ≠ g := fun e => Kd.R_ne h.rn h.b8 (by decide) (by rw [e]; rfl)
  have e10 : g10 ≠ g := fun e => Kd.R_ne h.rn h.b10 (by decide) (by rw [e]; rfl)
  have e70 : g70 ≠ g := fun e => Kd.R_ne h.rn h.b70.1 (by decide) (by rw [e]; rfl)
  refine ⟨h.hb.setCell (p := ⟨g, i, none⟩) hlt _, blk_far h.b8 e8 _, blk_far h.b10 e10 _, h.b70.far e70 _, ?_, ?_, ?_, h.ge8, h.ge10, h.ne⟩
  · exact Kd.R_of_own (by rw [List.length_set]; exact hst) (fun k hk => h.rn.1 k hk)
  · exact Kd.R_far (p := ⟨g, i, none⟩) h.rp (fun k hk e => hk.1 (by rw [e]; rfl)) _
  · exact Kd.R_far (p := ⟨g, i, none⟩) h.rd (fun k hk e => hk.1 (by rw [e]; rfl)) _
/-- The place of worker i. -/
theorem NSt.cell {g cap : Nat} (h : NSt w w' g8 g10 g70 (.slice (some ⟨g, 0, none⟩) named.length cap) vp vd named ps ds x) (i : Nat) (hi : i < named.length) : w'.cell? ⟨g, i, none⟩ = some (.int .i64 (named.getD i 0)) ∧ w'.frozen? ⟨g, i, none⟩ = false := by
  have := own_at (Kd.own_of_R h.rn) (i : Int) (by omega) (by omega)
  simpa [YtjlbimnafbngaaaW.PrintWords.rd] using this
theorem NSt.form (h : NSt w w' g8 g10 g70 vn vp vd named ps ds x) (hp : 0 < named.length) : ∃ g cap, vn = .slice (some ⟨g, 0, none⟩) named.length cap := by
  obtain ⟨g, cap, e, _⟩ := Kd.R_form h.rn hp
  exact ⟨g, cap, e⟩
end
end Go.Proofs.Ytjlbimnafbngaaa.Noise
