/- script.Noise: what each call answers, in memory of its own. -/
import Derived.Test.YtjlbimnafbngaaaNoiseState
import Derived.Test.YtjlbimnafbngaaaNoiseDefs
namespace Go.Proofs.Ytjlbimnafbngaaa.Noise
open Go.RowKit Go.Proofs.YtjlbimnafbngaaaW.PrintWords Go.Proofs.YtjlbimnafbngaaaW.PrintLast Go.Proofs.Ytjlbimnafbngaaa.BitMath Go.Proofs.Ytjlbimnafbngaaa.FairPure
open Go.Proofs.Ytjlbimnafbngaaa.PScriptNoise

/-- The state ahead of the loop. -/
theorem NSt.start (w w1 : World) (W : Nat) (x : Int) (hW : W ≤ 64) (b8 : w1.heap[w.heap.size]? = some (.cells #[.slice none 0 0, .slice none 0 0] 24 (0, 0))) (hb : Below w.heap.size w w1) :
    NSt w (((w1.alloc (.cells #[.slice none 0 0, .slice none 0 0] 24)).alloc (.cells #[.int .i64 x] 70)).alloc (.cells (madeCells #[.int .i64 0] W) 3)) w.heap.size w1.heap.size (w1.heap.size + 1) (.slice (some ⟨w1.heap.size + 2, 0, none⟩) W W) (.slice none 0 0) (.slice none 0 0) (List.replicate W 0) [] [] x := by
  have hs := below_size hb
  have hlt := blk_lt b8
  have hz1 : (w1.alloc (.cells #[.slice none 0 0, .slice none 0 0] 24)).heap.size = w1.heap.size + 1 := by simp
  have hz2 : ((w1.alloc (.cells #[.slice none 0 0, .slice none 0 0] 24)).alloc (.cells #[.int .i64 x] 70)).heap.size = w1.heap.size + 2 := by simp
  refine ⟨?_, ?_, ?_, ?_, ?_, ?_, ?_, Nat.le_refl _, hs, by omega⟩
  · exact ((hb.alloc hs _).alloc (by omega) _).alloc (by omega) _
  · exact blk_alloc (blk_alloc (blk_alloc b8 _) _) _
  · exact blk_alloc (blk_alloc (blk_new w1 _) _) _
  · have h := IsS70.new w (w1.alloc (.cells #[.slice none 0 0, .slice none 0 0] 24)) x (hb.alloc hs _)
    rw [hz1] at h
    exact h.alloc _
  · have h := World.ownsRow_lit (base := w.heap.size) (e := 3) (size := 1) ((w1.alloc (.cells #[.slice none 0 0, .slice none 0 0] 24)).alloc (.cells #[.int .i64 x] 70)) (madeCells #[.int .i64 0] W) W (by omega) (by unfold maxLen; omega) (by rw [size_madeCells]; simp)
    rw [hz2] at h
    refine Kd.R_of_own ?_ (fun k hk => ⟨by simp [Value.ownBlock], by simp [Value.ownBlock]⟩)
    have e : (madeCells #[.int .i64 0] W).toList = encs (Value.int .i64) (List.replicate W 0) := by
      apply List.ext_getElem
      · simp [encs, size_madeCells]
      · intro i h1 h2
        simp [encs, madeCells, Nat.mod_one]
    rw [← e, List.length_replicate]
    exact h
  · exact Kd.R_nil _ _ _ _ _
  · exact Kd.R_nil _ _ _ _ _
/-- The loop's plain part: i places are picked. -/
structure Mid (W n len : Nat) (x : Int) (i : Nat) (named ps ds : List Int) (y : Int) : Prop where
  le : i ≤ len
  hn : named.length = W
  hv : ∀ v ∈ named, 0 ≤ v ∧ v ≤ (i : Int)
  hp : ps.length = i
  hd : ds.length = i
  ep : ps ++ (noise W n (len - i) i named y).map (·.1) = (noise W n len 0 (List.replicate W 0) x).map (·.1)
  ed : ds ++ (noise W n (len - i) i named y).map (·.2) = (noise W n len 0 (List.replicate W 0) x).map (·.2)
theorem Mid.start (W n len : Nat) (x : Int) : Mid W n len x 0 (List.replicate W 0) [] [] x :=
  ⟨Nat.zero_le _, by simp, fun v hv => by rw [List.eq_of_mem_replicate hv]; omega, rfl, rfl, by simp, by simp⟩
theorem Mid.next {W n len i : Nat} {x y : Int} {named ps ds : List Int} (h : Mid W n len x i named ps ds y) (hlt : i < len) :
    Mid W n len x (i + 1) (named.set (pickOf W n i named (nxt y)) ((i + 1 : Nat) : Int)) (ps ++ [((pickOf W n i named (nxt y) : Nat) : Int)]) (ds ++ [num (nxt (nxt y))]) (nxt (nxt y)) := by
  obtain ⟨d, hd⟩ : ∃ d, len - i = d + 1 := ⟨len - i - 1, by omega⟩
  have hd' : len - (i + 1) = d := by omega
  refine ⟨hlt, by rw [List.length_set]; exact h.hn, set_bound h.hv, by simp [h.hp], by simp [h.hd], ?_, ?_⟩
  · rw [← h.ep, hd, hd', noise]; simp
  · rw [← h.ed, hd, hd', noise]; simp
theorem Mid.last {W n len : Nat} {x y : Int} {named ps ds : List Int} (h : Mid W n len x len named ps ds y) :
    ps = (noise W n len 0 (List.replicate W 0) x).map (·.1) ∧ ds = (noise W n len 0 (List.replicate W 0) x).map (·.2) := by
  rw [← h.ep, ← h.ed, Nat.sub_self, noise]; simp
theorem NSt.mark' {w w' : World} {g8 g10 g70 g cap W : Nat} {vp vd : Value} {named ps ds : List Int} {x : Int} (h : NSt w w' g8 g10 g70 (.slice (some ⟨g, 0, none⟩) W cap) vp vd named ps ds x) (hl : named.length = W) (i : Nat) (y : Int) :
    NSt w (w'.setCell ⟨g, i, none⟩ (.int .i64 y)) g8 g10 g70 (.slice (some ⟨g, 0, none⟩) W cap) vp vd (named.set i y) ps ds x := by
  subst hl
  have := h.mark i y
  rwa [List.length_set] at this
theorem NSt.cell' {w w' : World} {g8 g10 g70 g cap W : Nat} {vp vd : Value} {named ps ds : List Int} {x : Int} (h : NSt w w' g8 g10 g70 (.slice (some ⟨g, 0, none⟩) W cap) vp vd named ps ds x) (hl : named.length = W) (i : Nat) (hi : i < W) :
    w'.cell? ⟨g, i, none⟩ = some (.int .i64 (named.getD i 0)) ∧ w'.frozen? ⟨g, i, none⟩ = false := by
  subst hl
  exact h.cell i hi
theorem NSt.apart {w w' : World} {g8 g10 g70 g cap W : Nat} {vp vd : Value} {named ps ds : List Int} {x : Int} (h : NSt w w' g8 g10 g70 (.slice (some ⟨g, 0, none⟩) W cap) vp vd named ps ds x) : g10 ≠ g ∧ g8 ≠ g :=
  ⟨fun e => Kd.R_ne h.rn h.b10 (by decide) (by rw [e]; rfl), fun e => Kd.R_ne h.rn h.b8 (by decide) (by rw [e]; rfl)⟩
theorem NSt.drawn {w w' w1 : World} {g8 g10 g70 : Nat} {vn vp vd : Value} {named ps ds : List Int} {x : Int} (h : NSt w w' g8 g10 g70 vn vp vd named ps ds x) (m : Nat) (e : w'.drewN m = w1) : NSt w w1 g8 g10 g70 vn vp vd named ps ds x := by
  subst e
  exact h.below (Drawn0.below ⟨⟨m, rfl⟩⟩)
theorem seeded_f (y : Int) : script_seeded_number.f y = some (num (nxt y), nxt y) := rfl
theorem mod_f' (W : Nat) (hW : 0 < W) (hw : W ≤ 64) (x : Int) : ops_Mod.f x (W : Int) = some ((who W x : Nat) : Int) := FairPure.mod_f W hW hw x
theorem least_step {l : List Int} {W p j : Nat} (hj : j < W) (h : least l p j (W - j) = oldest l) : least l (if l.getD j 0 < l.getD p 0 then j else p) (j + 1) (W - (j + 1)) = oldest l := by
  rw [show W - j = (W - (j + 1)) + 1 by omega] at h
  exact h

def T16 : Bool × List (List Nat × List Nat) := (true, [([], []), ([0], [0]), ([], []), ([2], [2]), ([3], [3]), ([1, 4, 3], [1, 4]), ([0, 1, 2, 3, 4, 5], []), ([6, 5, 5, 0, 1, 2, 3, 4, 5], [5, 6])])
def B16 : List Nat := [0, 1, 0, 4, 12, 31, 63, 127]
theorem tab16 : rtab .any (opsOf Try.f43 16) = T16 := by kernel_rfl
theorem bits16 : waitsOk T16.2 B16 = true := by kernel_rfl
end Go.Proofs.Ytjlbimnafbngaaa.Noise
