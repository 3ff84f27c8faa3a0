/- Marked lists among the rows; scripts that are one: what the law ScriptEncode needs. -/
import Derived.Test.YtjlbimnafbngaaaDoorSame
import Derived.Test.YtjlbimnafbngaaaDoorFam
import Derived.Test.YtjlbimnafbngaaaDoorMark
import Derived.Test.YtjlbimnafbngaaaDoorBitMath
namespace Go.Proofs.YtjlbimnafbngaaaDoor.Enc
open Go.RowKit Go.Proofs.YtjlbimnafbngaaaDoorW.PrintWords Go.Proofs.YtjlbimnafbngaaaDoorW.PrintLast Go.Proofs.YtjlbimnafbngaaaDoorW.PrintMore Go.Proofs.YtjlbimnafbngaaaDoor.BitMath Go.Proofs.YtjlbimnafbngaaaDoor.PScriptEncode Go.Proofs.YtjlbimnafbngaaaDoor.Fam
theorem same_loop (l : List Int) (hm : l.length ≤ 9223372036854775806) (d : Nat) : ∀ (i k : Nat), i + d = l.length → d < k → plunderlaw10_same.l0 k l l (i : Int) = some true := by
  induction d with
  | zero =>
    intro i k hi hk
    obtain ⟨k, rfl⟩ : ∃ m, k = m + 1 := ⟨k - 1, by omega⟩
    simp only [plunderlaw10_same.l0]
    rw [if_neg (by omega)]
  | succ d ih =>
    intro i k hi hk
    obtain ⟨k, rfl⟩ : ∃ m, k = m + 1 := ⟨k - 1, by omega⟩
    simp only [plunderlaw10_same.l0]
    rw [if_pos (by omega), if_pos (by omega), if_pos (by omega), if_pos trivial, wrap_id (a := (i : Int) + 1) (by unfold In64; omega)]
    exact ih (i + 1) k (by omega) (by omega)
theorem script_same (l m : List Int) (k : Nat) (hl : l.length < k) (hm : m.length < k) (hk : k ≤ 9223372036854775806) : plunderlaw10_sameScript.f k l m l m = some true := by
  unfold plunderlaw10_sameScript.f plunderlaw10_same.f
  rw [if_pos rfl, show plunderlaw10_same.l0 k l l 0 = some true from same_loop l (by omega) l.length 0 k (by omega) (by omega)]
  simp only [Option.bind_some, if_true]
  rw [show plunderlaw10_same.l0 k m m 0 = some true from same_loop m (by omega) m.length 0 k (by omega) (by omega)]
  rfl
theorem same_calls (A0 A1 B0 B1 : Option Addr) (n m c0 c1 k0 k1 : Nat) (q d : List Int) (w : World) (hq : q.length = n) (hd : d.length = m) (hC0 : Kd.C (Kd.int .i64) w A0 q.length q) (hc0 : n ≤ c0) (hC1 : Kd.C (Kd.int .i64) w A1 d.length d) (hc1 : m ≤ c1)
    (hD0 : Kd.C (Kd.int .i64) w B0 q.length q) (hk0 : n ≤ k0) (hD1 : Kd.C (Kd.int .i64) w B1 d.length d) (hk1 : m ≤ k1) (hn : n < 17592186044416) (hm : m < 17592186044416) :
    Calls Tryd.prog 10 #[.agg #[.slice A0 n c0, .slice A1 m c1], .agg #[.slice B0 n k0, .slice B1 m k1]] w fun e w' => e = .returned (.bool true) ∧ Below w.heap.size w w' := by
  subst hq hd
  exact plunderlaw10_sameScript.calls 17592186044417 A0 c0 q A1 c1 d B0 k0 q B1 k1 d true w hC0 hc0 hC1 hc1 hD0 hk0 hD1 hk1 (script_same q d _ (by omega) (by omega) (by omega))

section
variable {t : Nat} {w0 w w1 : World} {O : List (Nat × Array Value)} {L : List (Value × List Int)} {i g cap n : Nat} {q ys : List Int} {x : Int}
theorem of_marked (h : HS t w0 w O L) (hM : Mark.Marked w1 w.heap.size g n cap ys) (hb : Below w.heap.size w w1) : HS t w0 w1 O (L ++ [(.slice (some ⟨g, 0, none⟩) (n + 1) cap, ys)]) := by
  have hr : (Kd.int .i64).R 3 w1 w.heap.size (fun _ => True) (.slice (some ⟨g, 0, none⟩) (n + 1) cap) ys := Kd.R_of_own (by rw [hM.1]; exact hM.2) (fun _ _ => trivial)
  exact h.made hr hb
theorem marked (h : HS t w0 w O L) (hi : L[i]? = some (.slice (some ⟨g, 0, none⟩) (n + 1) cap, ys)) (hy : ys.length = n + 1) : Mark.Marked w w0.heap.size g n cap ys :=
  ⟨hy, by have := h.fam.own _ (List.mem_iff_getElem?.2 ⟨i, hi⟩); rw [hy] at this; exact this⟩
theorem mark_C (h : HS t w0 w O L) (hi : L[i]? = some (.slice (some ⟨g, 0, none⟩) (n + 1) cap, q ++ [x])) (hq : q.length = n) : n + 1 ≤ cap ∧ Kd.C (Kd.int .i64) w (some ⟨g, 0, none⟩) q.length q := by
  have hM := marked h hi (by simp [hq])
  refine ⟨hM.cap.1, ?_⟩
  have := hM.reads
  rw [List.take_left' hq] at this
  exact this
theorem of_back (h : HS t w0 w O L) (ht : 3 ≠ t) (hi : L[i]? = some (.slice (some ⟨g, 0, none⟩) (n + 1) cap, ys)) {zs : List Int} (hM : Mark.Marked w1 w0.heap.size g n cap zs) (hb : Below w0.heap.size w0 w1) (hk : KeepBut w w1 g none) :
    HS t w0 w1 O (L.set i (.slice (some ⟨g, 0, none⟩) (n + 1) cap, zs)) :=
  h.put ht hi (by rw [hM.1]; exact hM.2) hb (fun b hlt hne => hk.2 b hlt (fun e => hne (by simp [Value.ownBlock, e])) (by simp)) (.inl rfl)
theorem of_store {c : Nat} {xs : List Int} (h : HS t w0 w O L) (ht : 3 ≠ t) (hi : L[i]? = some (.slice (some ⟨g, 0, none⟩) n c, xs)) (j : Nat) (y : Int) :
    HS t w0 (w.setCell ⟨g, j, none⟩ (.int .i64 y)) O (L.set i (.slice (some ⟨g, 0, none⟩) n c, xs.set j y)) := by
  have ho := h.fam.own _ (List.mem_iff_getElem?.2 ⟨i, hi⟩)
  obtain ⟨hn, _, _⟩ := h.C hi
  simp only at ho
  subst hn
  have hst := (own_store (k := .i64) ho (j : Int) y).1
  rw [Int.toNat_natCast] at hst
  have hlt := own_base ho g rfl
  exact h.put ht hi (by rw [List.length_set]; exact hst) (h.hb.setCell (p := ⟨g, j, none⟩) hlt _) (fun b _ hne => Below.heap_setCell w ⟨g, j, none⟩ (.int .i64 y) b (fun e => hne (by simp [Value.ownBlock, e]))) (.inl rfl)
theorem at_store {c : Nat} {xs : List Int} (h : HS t w0 w O L) (hi : L[i]? = some (.slice (some ⟨g, 0, none⟩) n c, xs)) (j : Nat) (hj : j < xs.length) : w.cell? ⟨g, j, none⟩ = some (.int .i64 (xs.getD j 0)) ∧ w.frozen? ⟨g, j, none⟩ = false := by
  have ho := h.fam.own _ (List.mem_iff_getElem?.2 ⟨i, hi⟩)
  obtain ⟨hn, _, _⟩ := h.C hi
  simp only at ho
  subst hn
  have := own_at ho (j : Int) (by omega) (by omega)
  simpa [YtjlbimnafbngaaaDoorW.PrintWords.rd] using this
theorem form_at {A : Option Addr} {c : Nat} {xs : List Int} (h : HS t w0 w O L) (hi : L[i]? = some (.slice A n c, xs)) (hj : 0 < n) : ∃ g, A = some ⟨g, 0, none⟩ := by
  obtain ⟨hn, _, _⟩ := h.C hi
  obtain ⟨g, cap, e, _⟩ := Kd.R_form (h.R hi) (by omega)
  injection e with e1
  exact ⟨g, e1⟩
end
end Go.Proofs.YtjlbimnafbngaaaDoor.Enc
