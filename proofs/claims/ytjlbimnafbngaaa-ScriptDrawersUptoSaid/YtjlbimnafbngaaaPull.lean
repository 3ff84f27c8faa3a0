/- script.Pull: what is drawn from whatever can be drawn from. -/
import Derived.Test.YtjlbimnafbngaaaTurnsCalls
import Derived.Test.YtjlbimnafbngaaaMScriptNoisex1
import Derived.Test.YtjlbimnafbngaaaWKept
namespace Go.Proofs.Ytjlbimnafbngaaa.Pull
open Go.RowKit Go.Proofs.YtjlbimnafbngaaaW.PrintWords Go.Proofs.YtjlbimnafbngaaaW.PrintLast Go.Proofs.Ytjlbimnafbngaaa.Turns Go.Proofs.Ytjlbimnafbngaaa.Mark Go.Proofs.Ytjlbimnafbngaaa.PScriptFair

/-- The first n draws of a source, and where it then stands. -/
def draws {σ : Type} (next : σ → Int × σ) : Nat → σ → List Int
  | 0, _ => []
  | n + 1, s => (next s).1 :: draws next n (next s).2
def after {σ : Type} (next : σ → Int × σ) : Nat → σ → σ
  | 0, s => s
  | n + 1, s => after next n (next s).2
theorem after_succ {σ : Type} (next : σ → Int × σ) : ∀ (n : Nat) (s : σ), after next (n + 1) s = (next (after next n s)).2
  | 0, _ => rfl
  | n + 1, s => after_succ next n (next s).2
theorem draws_succ {σ : Type} (next : σ → Int × σ) : ∀ (n : Nat) (s : σ), draws next (n + 1) s = draws next n s ++ [(next (after next n s)).1]
  | 0, _ => rfl
  | n + 1, s => by
    rw [show draws next (n + 1 + 1) s = (next s).1 :: draws next (n + 1) (next s).2 from rfl, draws_succ next n (next s).2]
    rfl
theorem draws_length {σ : Type} (next : σ → Int × σ) : ∀ (n : Nat) (s : σ), (draws next n s).length = n
  | 0, _ => rfl
  | n + 1, s => by rw [show draws next (n + 1) s = (next s).1 :: draws next n (next s).2 from rfl, List.length_cons, draws_length next n]
theorem draws_add {σ : Type} (next : σ → Int × σ) : ∀ (n m : Nat) (s : σ), draws next (n + m) s = draws next n s ++ draws next m (after next n s)
  | 0, m, s => by rw [Nat.zero_add]; rfl
  | n + 1, m, s => by
    rw [show n + 1 + m = (n + m) + 1 from by omega]
    show (next s).1 :: draws next (n + m) (next s).2 = (next s).1 :: draws next n (next s).2 ++ draws next m (after next n (next s).2)
    rw [draws_add next n m]
    rfl
theorem after_add {σ : Type} (next : σ → Int × σ) : ∀ (n m : Nat) (s : σ), after next (n + m) s = after next m (after next n s)
  | 0, m, s => by rw [Nat.zero_add]; rfl
  | n + 1, m, s => by
    rw [show n + 1 + m = (n + m) + 1 from by omega]
    exact after_add next n m _

/-- What can be drawn from: the method's function F at the value v; its state D, held by the blocks S. -/
structure Src {σ : Type} (w0 : World) (T F : Nat) (v : Value) (next : σ → Int × σ) (D : World → σ → Prop) (S : Nat → Prop) : Prop where
  finds : ∀ w, Sem.run Try.prog (method 200 T v "Draw") w = .ok (F, v) w
  enters : ∀ args w, (callFunc F args).run Try.prog w = .ok (.enter F args) w
  step : ∀ w s, Below w0.heap.size w0 w → D w s → Calls Try.prog F #[v] w fun e w' => e = .returned (.int .i64 (next s).1) ∧ D w' (next s).2 ∧ Below w0.heap.size w0 w' ∧ Kept w w' S
  keep : ∀ w w' s ok, D w s → Kept w w' ok → (∀ k, S k → ¬ ok k) → D w' s

set_option maxHeartbeats 2000000 in
set_option maxRecDepth 100000 in
theorem pull_ok {σ : Type} {w0 : World} {T F : Nat} {v : Value} {next : σ → Int × σ} {D : World → σ → Prop} {S : Nat → Prop} (hs : Src w0 T F v next D S)
    (n : Nat) (hn : n ≤ 1048576) (s : σ) (w : World) (hB : Below w0.heap.size w0 w) (hD : D w s) (hS : ∀ k, S k → k < w.heap.size) :
    Calls Try.prog 24 #[.iface T v, .int .i64 (n : Int)] w fun e w' => ∃ u : Value, e = .returned (.tuple #[u, .int .i64 0]) ∧ Kd.R (Kd.int .i64) 3 w' w0.heap.size (fun k => ¬ S k ∧ w.heap.size ≤ k) u (draws next n s) ∧ D w' (after next n s) ∧ Below w0.heap.size w0 w' ∧ Kept w w' S := by
  obtain ⟨i0, hi, hz0, hz1, hz2⟩ := info_parts infoE
  have hmk : ∀ u : World, (Instr.makeSlice 22 (.int .i64 0) (.int .i64 (n : Int))).run Try.prog u =
      .ok (.slice (some ⟨u.heap.size, 0, none⟩) 0 n) (u.alloc (.cells (madeCells #[.int .i64 0] n) 3)) := fun u => by
    have h := run_make (P := Try.prog) u 22 3 i0 (.int .i64 0) Try.underlying22 hi hz0 .i64 .i64 0 (n : Int) (by omega) (by omega) (by rw [hz2]; omega) (by omega)
    simpa [hz1, Value.cells] using h
  clear hi hz0 hz1 hz2
  have HB := Aside0.mk hB
  have hn2 : (n : Int) ≤ 1048576 := by omega
  clear hB
  go_enter Try.func24, Try.ntmps24
  go_wp2_with fail
  have HR := Aside0.mk (show Kd.R (Kd.int .i64) 3 (w.alloc (.cells (madeCells #[.int .i64 0] n) 3)) w0.heap.size (fun k => ¬ S k ∧ w.heap.size ≤ k) (.slice (some ⟨w.heap.size, 0, none⟩) 0 n) [] from Kd.R_mono (Kd.R_lower (Kd.R_bound (room w n w.heap.size hn (Nat.le_refl _))) (below_size HB.out)) (fun k hk => ⟨fun h => absurd (hS k h) (by have := hk.2.1; omega), hk.2.1⟩))
  have HD := Aside0.mk (show D (w.alloc (.cells (madeCells #[.int .i64 0] n) 3)) s from hs.keep w _ s (fun _ => False) hD ((Kept.refl w _).alloc _) (fun _ _ h => h))
  have HK := Aside0.mk ((Kept.refl w S).alloc (.cells (madeCells #[.int .i64 0] n) 3))
  have HB1 := Aside0.mk (HB.out.alloc (below_size HB.out) (.cells (madeCells #[.int .i64 0] n) 3))
  have hF := hs.finds
  have hE := hs.enters
  go_loopw [6, 19] (fun v6 v19 w' => ∃ i : Nat, i ≤ n ∧ v19 = .int .i64 i ∧ Aside0 (Kd.R (Kd.int .i64) 3 w' w0.heap.size (fun k => ¬ S k ∧ w.heap.size ≤ k) v6 (draws next i s)) ∧ Aside0 (D w' (after next i s)) ∧ Aside0 (Below w0.heap.size w0 w') ∧ Aside0 (Kept w w' S)) (fun _ i _ => n - (intOf i).toNat)
  case atStart => exact ⟨0, Nat.zero_le _, rfl, HR, HD, HB1, HK⟩
  case round =>
    clear HR HB HD HK HB1
    obtain ⟨i, hi, rfl, HR, HD, HB, HK⟩ := hrel
    by_cases hlt : i < n
    · have HL := Aside0.mk (show ((draws next i s).length + 1) * 8 ≤ 140737488355328 by rw [draws_length]; omega)
      have HT := Aside0.mk (draws_succ next i s)
      have HA := Aside0.mk (after_succ next i s)
      have HX := Aside0.mk (hs.step wr (after next i s) HB.out HD.out)
      generalize draws next i s = xs at *
      generalize after next i s = si at *
      have HS := Aside0.mk hS
      clear hS hD
      go_wp2_with fail
      refine (HX.out).mono ?_
      rintro e w2 ⟨rfl, hd2, hb2, hk2⟩
      have n0_ := Aside0.mk (Kd.R_kept HR.out hk2 (fun k hk => hk.1))
      have n1_ := Aside0.mk hd2
      have n2_ := Aside0.mk hb2
      have n3_ := Aside0.mk (HK.out.then_ hk2 (fun _ h => .inl h))
      clear HR HD HB HK hd2 hb2 hk2
      have HR := n0_
      have HD := n1_
      have HB := n2_
      have HK := n3_
      clear n0_ n1_ n2_ n3_
      generalize (next si).1 = x at *
      go_wp2_with (first | ((with_reducible refine gate_builtin (b := .append) (xs := #[.tmp 21, .tmp 24]) rfl ?_); at_builtin; refine Kd.R_append (Kd.int .i64) (w0 := w0) w0.heap.size rfl (.tmp 21) (.tmp 24) 22 3 (.int .i64 0) 8 rfl Try.underlying22 infoE rfl (by decide) (by omega) u6 xs x [.int .i64 x] (fun k => ¬ S k ∧ w.heap.size ≤ k) (fun _ => False) rfl rfl ?aP (fun _ hk => hk.elim) ?aF ?aO ?aB ?aS ?aL ?_; (case aP => exact rfl); (case aB => exact HB.out); (case aF => exact (fun k hk => ⟨fun h => absurd (HS.out k h) (by have := HK.out.1; omega), Nat.le_trans HK.out.1 hk⟩)); (case aO => exact HR.out); (case aS => exact (below_size HB.out)); (case aL => exact HL.out); intro v103 w5 ho hb hg hat; have n0_ := Aside0.mk (hb); have n1_ := Aside0.mk (ho); have n2_ := Aside0.mk (hs.keep _ w5 _ (fun k => u6.ownBlock = some k) HD.out (Kept.of_grown hg (Kept.refl _ _) (fun k e => .inl e)) (fun k hk e => (HR.out.1 k e).1 hk)); have n3_ := Aside0.mk (Kept.of_grown hg HK.out (fun k e => .inr (HR.out.1 k e).2)); clear HB HR HD HK; have HB := n0_; have HR := n1_; have HD := n2_; have HK := n3_; clear n0_ n1_ n2_ n3_; clear ho hb hg hat))
      go_roundw
      case measure => simp [intOf]; omega
      case rel => exact ⟨i + 1, by omega, by go_num, ⟨by rw [HT.out]; exact HR.out⟩, ⟨by rw [HA.out]; exact HD.out⟩, HB, HK⟩
    · obtain rfl : i = n := by omega
      go_wp2
      go_ret2
      exact ⟨_, rfl, HR.out, HD.out, HB.out, HK.out⟩
set_option maxHeartbeats 2000000 in
set_option maxRecDepth 100000 in
theorem pull_nil (a : Int) (w : World) : Calls Try.prog 24 #[.nilIface, .int .i64 a] w fun e w' => e = .returned (.tuple #[.slice none 0 0, .int .i64 1]) ∧ Drawn0 w w' := by
  go_enter Try.func24, Try.ntmps24
  go_wp2
  go_ret2
  exact ⟨rfl, Drawn0.refl _⟩
set_option maxHeartbeats 2000000 in
set_option maxRecDepth 100000 in
theorem pull_no (T : Nat) (v : Value) (a : Int) (w : World) (h : a < 0 ∨ a > 1048576) : Calls Try.prog 24 #[.iface T v, .int .i64 a] w fun e w' => e = .returned (.tuple #[.slice none 0 0, .int .i64 (if a < 0 then 3 else 2)]) ∧ Drawn0 w w' := by
  by_cases h1 : a < 0
  · have hd1 : decide (a < 0) = true := decide_eq_true h1
    rw [if_pos h1]
    clear h1 h
    go_enter Try.func24, Try.ntmps24
    go_wp2
    go_ret2
    exact ⟨rfl, Drawn0.refl _⟩
  · have hd1 : decide (a < 0) = false := decide_eq_false h1
    have hd2 : decide (1048576 < a) = true := decide_eq_true (by omega)
    rw [if_neg h1]
    clear h1 h
    go_enter Try.func24, Try.ntmps24
    go_wp2
    go_ret2
    exact ⟨rfl, Drawn0.refl _⟩
end Go.Proofs.Ytjlbimnafbngaaa.Pull
