/- script.Cut and the document's: the same lists: plain facts. -/
import Derived.Test.YtjlbimnafbngaaaMScriptCutx1
import Derived.Test.YtjlbimnafbngaaaMScriptCutx2
import Derived.Test.YtjlbimnafbngaaaFam
import Derived.Test.YtjlbimnafbngaaaMark
import Derived.Test.YtjlbimnafbngaaaBitMath
namespace Go.Proofs.Ytjlbimnafbngaaa.Cut
open Go.RowKit Go.Proofs.YtjlbimnafbngaaaW.PrintWords Go.Proofs.YtjlbimnafbngaaaW.PrintLast Go.Proofs.YtjlbimnafbngaaaW.PrintMore Go.Proofs.Ytjlbimnafbngaaa.BitMath Go.Proofs.Ytjlbimnafbngaaa.PScriptCut Go.Proofs.Ytjlbimnafbngaaa.Fam

/-- How many picks are left. -/
def cutN (a : Int) (n : Nat) : Nat := (mn (mx a 0) (n : Int)).toNat
theorem cutN_le (a : Int) (n : Nat) : cutN a n ≤ n := by unfold cutN mn mx; split <;> split <;> omega
theorem cut_f (p d : List Int) (a : Int) (hp : p.length < 17592186044416) (hd : d.length < 17592186044416) : script_Cut.f p d a = some (p.take (cutN a p.length), d) := by
  have h0 : 0 ≤ mn (mx a 0) (p.length : Int) := by unfold mn mx; split <;> split <;> omega
  have h1 : mn (mx a 0) (p.length : Int) ≤ (p.length : Int) := by unfold mn mx; split <;> split <;> omega
  unfold script_Cut.f slices_Clone_int_int.f
  rw [if_pos h0, if_pos h1, if_pos (by rw [List.length_take]; omega), Option.bind_some, if_pos hd, Option.bind_some]
  rfl
theorem rd_take (l : List Int) (i : Nat) (h : i < l.length) : l.take (i + 1) = l.take i ++ [rd l (i : Int)] := by
  rw [List.take_succ_eq_append_getElem h]
  unfold rd
  rw [Int.toNat_natCast, List.getD_eq_getElem?_getD, List.getElem?_eq_getElem h]
  rfl
theorem ref1_loop (p d q : List Int) (hd : d.length < 17592186044416) (n : Nat) : ∀ (i k : Nat), i + n = d.length → n < k → plunderref10_Cut.l1 k (i : Int) p d q (d.take i) = some (q, d) := by
  induction n with
  | zero =>
    intro i k hi hk
    obtain ⟨k, rfl⟩ : ∃ m, k = m + 1 := ⟨k - 1, by omega⟩
    simp only [plunderref10_Cut.l1]
    rw [if_neg (by omega), List.take_of_length_le (by omega)]
  | succ n ih =>
    intro i k hi hk
    obtain ⟨k, rfl⟩ : ∃ m, k = m + 1 := ⟨k - 1, by omega⟩
    simp only [plunderref10_Cut.l1]
    rw [if_pos (by omega), if_pos (by omega), if_pos (by rw [List.length_take]; omega), wrap_id (a := (i : Int) + 1) (by unfold In64; omega), ← rd_take d i (by omega)]
    exact ih (i + 1) k (by omega) (by omega)
theorem ref0_loop (p d : List Int) (hp : p.length < 17592186044416) (hd : d.length < 17592186044416) (c : Nat) (hc : c ≤ p.length) (n : Nat) : ∀ (i k : Nat), i + n = c → n + d.length + 1 < k → plunderref10_Cut.l0 k (c : Int) (i : Int) p d (p.take i) = some (p.take c, d) := by
  induction n with
  | zero =>
    intro i k hi hk
    obtain ⟨k, rfl⟩ : ∃ m, k = m + 1 := ⟨k - 1, by omega⟩
    obtain rfl : i = c := by omega
    simp only [plunderref10_Cut.l0]
    rw [if_neg (by omega)]
    exact ref1_loop p d (p.take i) hd d.length 0 k (by omega) (by omega)
  | succ n ih =>
    intro i k hi hk
    obtain ⟨k, rfl⟩ : ∃ m, k = m + 1 := ⟨k - 1, by omega⟩
    simp only [plunderref10_Cut.l0]
    rw [if_pos (by omega), if_pos (by omega), if_pos (by omega), if_pos (by rw [List.length_take]; omega), wrap_id (a := (i : Int) + 1) (by unfold In64; omega), ← rd_take p i (by omega)]
    exact ih (i + 1) k (by omega) (by omega)
theorem refcut_f (p d : List Int) (a : Int) (hp : p.length < 17592186044416) (hd : d.length < 17592186044416) (k : Nat) (hk : p.length + d.length + 2 < k) : plunderref10_Cut.f k p d a = some (p.take (cutN a p.length), d) := by
  have e : mx 0 (mn a (p.length : Int)) = ((cutN a p.length : Nat) : Int) := by unfold cutN mn mx; split <;> split <;> omega
  have hc := cutN_le a p.length
  unfold plunderref10_Cut.f
  rw [e]
  exact ref0_loop p d hp hd (cutN a p.length) hc (cutN a p.length) 0 k (by omega) (by omega)
theorem same_loop (l : List Int) (hm : l.length ≤ 9223372036854775806) (d : Nat) : ∀ (i k : Nat), i + d = l.length → d < k → plunderlaw10_same.l0 k l l (i : Int) = some true := by
  induction d with
  | zero =>
    intro i k hi hk
    obtain ⟨k, rfl⟩ : ∃ m, k = m + 1 := ⟨k - 1, by omega⟩
    simp only [plunderlaw10_same.l0]
    rw [if_neg (by omega)]
  | succ d ih =>
    intro i k hi hk
    obtain ⟨k, rfl⟩ : ∃ m, k = m + 1 := ⟨k - 1, by omega⟩
    simp only [plunderlaw10_same.l0]
    rw [if_pos (by omega), if_pos (by omega), if_pos (by omega), if_pos trivial, wrap_id (a := (i : Int) + 1) (by unfold In64; omega)]
    exact ih (i + 1) k (by omega) (by omega)
theorem script_same (l m : List Int) (k : Nat) (hl : l.length < k) (hm : m.length < k) (hk : k ≤ 9223372036854775806) : plunderlaw10_sameScript.f k l m l m = some true := by
  unfold plunderlaw10_sameScript.f plunderlaw10_same.f
  rw [if_pos rfl, show plunderlaw10_same.l0 k l l 0 = some true from same_loop l (by omega) l.length 0 k (by omega) (by omega)]
  simp only [Option.bind_some, if_true]
  rw [show plunderlaw10_same.l0 k m m 0 = some true from same_loop m (by omega) m.length 0 k (by omega) (by omega)]
  rfl
theorem spoilt_loop (d : Nat) : ∀ (l : List Int) (i k : Nat), i + d = l.length → d < k → l.length < 17592186044416 → ∃ r, plunderlaw10_spoilt.l0 k l (i : Int) = some r ∧ r.length = l.length + 1 := by
  induction d with
  | zero =>
    intro l i k hi hk hl
    obtain ⟨k, rfl⟩ : ∃ m, k = m + 1 := ⟨k - 1, by omega⟩
    simp only [plunderlaw10_spoilt.l0]
    rw [if_neg (by omega), if_pos hl]
    exact ⟨_, rfl, by simp⟩
  | succ d ih =>
    intro l i k hi hk hl
    obtain ⟨k, rfl⟩ : ∃ m, k = m + 1 := ⟨k - 1, by omega⟩
    simp only [plunderlaw10_spoilt.l0]
    rw [if_pos (by omega), if_pos (by omega), wrap_id (a := (i : Int) + 1) (by unfold In64; omega)]
    obtain ⟨r, h1, h2⟩ := ih (l.set (i : Int).toNat (wrap64 (-1 - (i : Int)))) (i + 1) k (by rw [List.length_set]; omega) (by omega) (by rw [List.length_set]; exact hl)
    exact ⟨r, h1, by rw [h2, List.length_set]⟩
theorem spoilt_f (l : List Int) (hl : l.length < 17592186044416) : ∃ r, plunderlaw10_spoilt.f (l.length + 1) l = some r ∧ r.length = l.length + 1 :=
  spoilt_loop l.length l 0 _ (by omega) (by omega) hl

/-! ### The calls, their lengths spelled apart -/
theorem cut_calls (A0 A1 : Option Addr) (n m c0 c1 : Nat) (q d : List Int) (a : Int) (w : World) (hq : q.length = n) (hd : d.length = m) (hC0 : Kd.C (Kd.int .i64) w A0 q.length q) (hc0 : n ≤ c0) (hC1 : Kd.C (Kd.int .i64) w A1 d.length d) (hc1 : m ≤ c1) (hn : n < 17592186044416) (hm : m < 17592186044416) :
    Calls Try.prog 15 #[.agg #[.slice A0 n c0, .slice A1 m c1], .int .i64 a] w fun e w' => ∃ v0 v1 : Value, e = .returned (.agg #[v0, v1]) ∧ Kd.R (Kd.int .i64) 3 w' w.heap.size (fun b => some b ≠ v1.ownBlock) v0 (q.take (cutN a n)) ∧ Kd.R (Kd.int .i64) 3 w' w.heap.size (fun b => some b ≠ v0.ownBlock) v1 d ∧ Below w.heap.size w w' := by
  subst hq hd
  exact script_Cut.calls A0 c0 q A1 c1 d a _ _ w hC0 hc0 hC1 hc1 (cut_f q d a hn hm)
theorem same_calls (A0 A1 B0 B1 : Option Addr) (n m c0 c1 k0 k1 : Nat) (q d : List Int) (w : World) (hq : q.length = n) (hd : d.length = m) (hC0 : Kd.C (Kd.int .i64) w A0 q.length q) (hc0 : n ≤ c0) (hC1 : Kd.C (Kd.int .i64) w A1 d.length d) (hc1 : m ≤ c1)
    (hD0 : Kd.C (Kd.int .i64) w B0 q.length q) (hk0 : n ≤ k0) (hD1 : Kd.C (Kd.int .i64) w B1 d.length d) (hk1 : m ≤ k1) (hn : n < 17592186044416) (hm : m < 17592186044416) :
    Calls Try.prog 18 #[.agg #[.slice A0 n c0, .slice A1 m c1], .agg #[.slice B0 n k0, .slice B1 m k1]] w fun e w' => e = .returned (.bool true) ∧ Below w.heap.size w w' := by
  subst hq hd
  exact plunderlaw10_sameScript.calls 17592186044417 A0 c0 q A1 c1 d B0 k0 q B1 k1 d true w hC0 hc0 hC1 hc1 hD0 hk0 hD1 hk1 (script_same q d _ (by omega) (by omega) (by omega))

/-! ### A marked row among the rows -/
section
variable {t : Nat} {w0 w w1 : World} {O : List (Nat × Array Value)} {L : List (Value × List Int)} {i g cap n : Nat} {q ys : List Int} {x : Int}
theorem of_marked (h : HS t w0 w O L) (hM : Mark.Marked w1 w.heap.size g n cap ys) (hb : Below w.heap.size w w1) : HS t w0 w1 O (L ++ [(.slice (some ⟨g, 0, none⟩) (n + 1) cap, ys)]) := by
  have hr : (Kd.int .i64).R 3 w1 w.heap.size (fun _ => True) (.slice (some ⟨g, 0, none⟩) (n + 1) cap) ys := Kd.R_of_own (by rw [hM.1]; exact hM.2) (fun _ _ => trivial)
  exact h.made hr hb
theorem marked (h : HS t w0 w O L) (hi : L[i]? = some (.slice (some ⟨g, 0, none⟩) (n + 1) cap, ys)) (hy : ys.length = n + 1) : Mark.Marked w w0.heap.size g n cap ys :=
  ⟨hy, by have := h.fam.own _ (List.mem_iff_getElem?.2 ⟨i, hi⟩); rw [hy] at this; exact this⟩
theorem mark_C (h : HS t w0 w O L) (hi : L[i]? = some (.slice (some ⟨g, 0, none⟩) (n + 1) cap, q ++ [x])) (hq : q.length = n) : n + 1 ≤ cap ∧ Kd.C (Kd.int .i64) w (some ⟨g, 0, none⟩) q.length q := by
  have hM := marked h hi (by simp [hq])
  refine ⟨hM.cap.1, ?_⟩
  have := hM.reads
  rw [List.take_left' hq] at this
  exact this
theorem of_back (h : HS t w0 w O L) (ht : 3 ≠ t) (hi : L[i]? = some (.slice (some ⟨g, 0, none⟩) (n + 1) cap, ys)) {zs : List Int} (hM : Mark.Marked w1 w0.heap.size g n cap zs) (hb : Below w0.heap.size w0 w1) (hk : KeepBut w w1 g none) :
    HS t w0 w1 O (L.set i (.slice (some ⟨g, 0, none⟩) (n + 1) cap, zs)) :=
  h.put ht hi (by rw [hM.1]; exact hM.2) hb (fun b hlt hne => hk.2 b hlt (fun e => hne (by simp [Value.ownBlock, e])) (by simp)) (.inl rfl)
theorem of_store {c : Nat} {xs : List Int} (h : HS t w0 w O L) (ht : 3 ≠ t) (hi : L[i]? = some (.slice (some ⟨g, 0, none⟩) n c, xs)) (j : Nat) (y : Int) :
    HS t w0 (w.setCell ⟨g, j, none⟩ (.int .i64 y)) O (L.set i (.slice (some ⟨g, 0, none⟩) n c, xs.set j y)) := by
  have ho := h.fam.own _ (List.mem_iff_getElem?.2 ⟨i, hi⟩)
  obtain ⟨hn, _, _⟩ := h.C hi
  simp only at ho
  subst hn
  have hst := (own_store (k := .i64) ho (j : Int) y).1
  rw [Int.toNat_natCast] at hst
  have hlt := own_base ho g rfl
  exact h.put ht hi (by rw [List.length_set]; exact hst) (h.hb.setCell (p := ⟨g, j, none⟩) hlt _) (fun b _ hne => Below.heap_setCell w ⟨g, j, none⟩ (.int .i64 y) b (fun e => hne (by simp [Value.ownBlock, e]))) (.inl rfl)
theorem at_store {c : Nat} {xs : List Int} (h : HS t w0 w O L) (hi : L[i]? = some (.slice (some ⟨g, 0, none⟩) n c, xs)) (j : Nat) (hj : j < xs.length) : w.cell? ⟨g, j, none⟩ = some (.int .i64 (xs.getD j 0)) ∧ w.frozen? ⟨g, j, none⟩ = false := by
  have ho := h.fam.own _ (List.mem_iff_getElem?.2 ⟨i, hi⟩)
  obtain ⟨hn, _, _⟩ := h.C hi
  simp only at ho
  subst hn
  have := own_at ho (j : Int) (by omega) (by omega)
  simpa [YtjlbimnafbngaaaW.PrintWords.rd] using this
theorem form_at {A : Option Addr} {c : Nat} {xs : List Int} (h : HS t w0 w O L) (hi : L[i]? = some (.slice A n c, xs)) (hj : 0 < n) : ∃ g, A = some ⟨g, 0, none⟩ := by
  obtain ⟨hn, _, _⟩ := h.C hi
  obtain ⟨g, cap, e, _⟩ := Kd.R_form (h.R hi) (by omega)
  injection e with e1
  exact ⟨g, e1⟩
end
end Go.Proofs.Ytjlbimnafbngaaa.Cut
