/- The document's own seeded numbers (function 27). -/
import Derived.Test.YtjlbimnafbngaaaSources
import Derived.Test.YtjlbimnafbngaaaNoisePure
namespace Go.Proofs.Ytjlbimnafbngaaa.Pull
open Go.RowKit Go.Proofs.YtjlbimnafbngaaaW.PrintWords Go.Proofs.YtjlbimnafbngaaaW.PrintLast Go.Proofs.Ytjlbimnafbngaaa.PScriptNoise Go.Proofs.Ytjlbimnafbngaaa.Mark

theorem nn1 (x : Int) : (nextNum x).1 = Noise.num (Noise.nxt x) := rfl
theorem nn2 (x : Int) : (nextNum x).2 = Noise.nxt x := rfl
set_option maxHeartbeats 2000000 in
set_option maxRecDepth 100000 in
theorem refseeded_calls (n : Nat) (hn : n ≤ 4194304) (x : Int) (w : World) :
    Calls Try.prog 27 #[.int .i64 x, .int .i64 (n : Int)] w fun e w' => ∃ u : Value, e = .returned u ∧ Kd.R (Kd.int .i64) 3 w' w.heap.size (fun _ => True) u (draws nextNum n x) ∧ Below w.heap.size w w' := by
  have HB1 := Aside0.mk (Below.refl w.heap.size w)
  have hn2 : (n : Int) ≤ 4194304 := by omega
  go_enter Try.func27, Try.ntmps27
  go_wp2_with fail
  go_loopw [5, 6, 7] (fun v5 v6 v7 w' => ∃ i : Nat, i ≤ n ∧ v7 = .int .i64 i ∧ v6 = .int .i64 (after nextNum i x) ∧ Aside0 (Kd.R (Kd.int .i64) 3 w' w.heap.size (fun _ => True) v5 (draws nextNum i x)) ∧ Aside0 (Below w.heap.size w w')) (fun _ _ i _ => n - (intOf i).toNat)
  case atStart => exact ⟨0, Nat.zero_le _, rfl, rfl, ⟨Kd.R_nil _ _ _ _ _⟩, HB1⟩
  case round =>
    clear HB1
    obtain ⟨i, hi, rfl, rfl, HR, HB⟩ := hrel
    by_cases hlt : i < n
    · have HL := Aside0.mk (show ((draws nextNum i x).length + 1) * 8 ≤ 140737488355328 by rw [draws_length]; omega)
      have HT := Aside0.mk (draws_succ nextNum i x)
      have HA := Aside0.mk (after_succ nextNum i x)
      generalize draws nextNum i x = xs at *
      generalize after nextNum i x = si at *
      rw [nn1] at HT
      rw [nn2] at HA
      have HX := Aside0.mk (plunderref10_Next.calls si _ wr (Noise.next_f si))
      have HN := Aside0.mk (fun w => plunderref10_Number.calls 34 (Noise.nxt si) _ w (Noise.number_f (Noise.nxt si) (BitMath.in64_wrap _) 34 (Nat.le_refl _)))
      generalize Noise.num (Noise.nxt si) = y at *
      generalize Noise.nxt si = si1 at *
      go_wp2_with fail
      refine (HX.out).mono ?_
      rintro e w2 ⟨rfl, hd⟩
      have HR2 := Aside0.mk (Kd.R_below HR.out hd.below)
      have HB2 := Aside0.mk (below_step HB.out hd.below)
      clear HR HB hd HX
      go_wp2_with fail
      refine (HN.out _).mono ?_
      rintro e w3 ⟨rfl, hd⟩
      have HR := Aside0.mk (Kd.R_below HR2.out hd.below)
      have HB := Aside0.mk (below_step HB2.out hd.below)
      clear HR2 HB2 hd HN
      go_wp2_with (first | ((with_reducible refine gate_builtin (b := .append) (xs := #[.tmp 16, .tmp 19]) rfl ?_); at_builtin; refine Kd.R_append (Kd.int .i64) (w0 := w) w.heap.size rfl (.tmp 16) (.tmp 19) 22 3 (.int .i64 0) 8 rfl Try.underlying22 infoE rfl (by decide) (by omega) u5 xs y [.int .i64 y] (fun _ => True) (fun _ => False) rfl rfl ?aP (fun _ hk => hk.elim) ?aF ?aO ?aB ?aS ?aL ?_; (case aP => exact rfl); (case aB => exact HB.out); (case aF => exact (fun _ _ => trivial)); (case aO => exact HR.out); (case aS => exact (below_size HB.out)); (case aL => exact HL.out); intro v103 w5 ho hb hg hat; have n0_ := Aside0.mk (hb); have n1_ := Aside0.mk (ho); clear HB HR; have HB := n0_; have HR := n1_; clear n0_ n1_; clear ho hb hg hat))
      go_roundw
      case measure => simp [intOf]; omega
      case rel => exact ⟨i + 1, by omega, by go_num, by rw [HA.out], ⟨by rw [HT.out]; exact HR.out⟩, HB⟩
    · obtain rfl : i = n := by omega
      go_wp2
      go_ret
      exact ⟨_, rfl, HR.out, HB.out⟩
end Go.Proofs.Ytjlbimnafbngaaa.Pull
