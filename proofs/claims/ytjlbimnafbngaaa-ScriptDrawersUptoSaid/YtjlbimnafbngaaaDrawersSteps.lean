/- Steps of the statement ScriptDrawers: a drawer among things that lie apart is drawn from; rows are read. -/
import Derived.Test.YtjlbimnafbngaaaDrawersPure
namespace Go.Proofs.Ytjlbimnafbngaaa.Drawers
open Go.RowKit Go.Proofs.YtjlbimnafbngaaaW.PrintWords Go.Proofs.YtjlbimnafbngaaaW.PrintLast Go.Proofs.Ytjlbimnafbngaaa.Pull Go.Proofs.Ytjlbimnafbngaaa.BitMath Go.Proofs.Ytjlbimnafbngaaa.PScriptDrawers
set_option linter.unusedVariables false

theorem draws_get {σ : Type} (f : σ → Int × σ) (n : Nat) : ∀ (i : Nat) (s : σ), i < n → (draws f n s).getD i 0 = (f (after f i s)).1 := by
  induction n with
  | zero => intro i s h; omega
  | succ n ih =>
    intro i s h
    cases i with
    | zero => rfl
    | succ i => exact ih i (f s).2 (by omega)
theorem draw_along {w0 w : World} {Ts : List Th} {lo hi d at_ : Nat} {l : List Int} {b : Bool} (i : Nat) (h : All w0 Ts w) (hq : Ts[i]? = some (thAlong lo hi d l b at_)) (hl : l.length ≤ 1048576) :
    Calls Try.prog 28 #[.pointer (some ⟨d, 0, none⟩)] w fun e w' => e = .returned (.int .i64 (alongNext l b at_).1) ∧ All w0 (Ts.set i (thAlong lo hi d l b (alongNext l b at_).2)) w' :=
  (along_draw w hl h.hb (h.get hq) (h.ge hq)).mono (fun e w' ⟨h1, h2, h3, h4⟩ => ⟨h1, h.put hq h4 h3 h2 (thAlong_ok _ _ _ _ _ _) rfl rfl⟩)
theorem draw_seed {w0 w : World} {Ts : List Th} {lo hi d : Nat} {x : Int} (i : Nat) (h : All w0 Ts w) (hq : Ts[i]? = some (thSeed w0 lo hi d x)) :
    Calls Try.prog 28 #[.pointer (some ⟨d, 0, none⟩)] w fun e w' => e = .returned (.int .i64 (nextNum x).1) ∧ All w0 (Ts.set i (thSeed w0 lo hi d (nextNum x).2)) w' := by
  obtain ⟨g, hD, b1, b2⟩ := h.get hq
  exact (seeded_step w0 d g w x h.hb hD).mono (fun e w' ⟨h1, h2, h3, h4⟩ => ⟨h1, h.put hq (h4.mono (fun k hk => by rcases hk with e | e <;> subst e <;> assumption)) h3 (show (thSeed w0 lo _ d (nextNum x).2).P w' from ⟨g, h2, b1, b2⟩) (thSeed_ok _ _ _ _ _) rfl rfl⟩)
theorem row_form {w0 w : World} {Ts : List Th} {lo hi : Nat} {v : Value} {xs : List Int} (i : Nat) (h : All w0 Ts w) (hi : Ts[i]? = some (thRow lo hi v xs)) (hp : 0 < xs.length) : ∃ g c, v = .slice (some ⟨g, 0, none⟩) xs.length c := by
  obtain ⟨g, c, e, _⟩ := Kd.R_form (h.get hi) hp
  exact ⟨g, c, e⟩
theorem row_at {w0 w : World} {Ts : List Th} {lo hi g n c : Nat} {xs : List Int} (i : Nat) (h : All w0 Ts w) (hi : Ts[i]? = some (thRow lo hi (.slice (some ⟨g, 0, none⟩) n c) xs)) (j : Nat) (hj : j < xs.length) : w.cell? ⟨g, j, none⟩ = some (.int .i64 (xs.getD j 0)) := by
  have hr : Kd.R (Kd.int .i64) 3 w lo (fun k => k < _) (.slice (some ⟨g, 0, none⟩) n c) xs := h.get hi
  have hn := (Kd.R_reads' hr).1
  have hx := (Kd.R_celln 0 hr (j : Int) (by omega) (by omega)).1
  rw [Int.toNat_natCast] at hx
  rw [hx]
  simp [rdOf]

set_option maxHeartbeats 2000000 in
set_option maxRecDepth 100000 in
theorem drawn_calls (p : Value) (w : World) (h : ∀ w', Below w.heap.size w w' → Calls Try.prog 28 #[p] w' fun e w2 => e = .returned (.int .i64 0) ∧ Drawn0 w' w2) :
    Calls Try.prog 40 #[p, .int .i64 2] w fun e w' => ∃ u : Value, e = .returned u ∧ Kd.R (Kd.int .i64) 3 w' w.heap.size (fun _ => True) u (List.replicate 2 0) ∧ Below w.heap.size w w' := by
  have HB1 := Aside0.mk (Below.refl w.heap.size w)
  have HH := Aside0.mk h
  clear h
  go_enter Try.func40, Try.ntmps40
  go_wp2_with fail
  go_loopw [5, 6] (fun v5 v6 w' => ∃ i : Nat, i ≤ 2 ∧ v6 = .int .i64 i ∧ Aside0 (Kd.R (Kd.int .i64) 3 w' w.heap.size (fun _ => True) v5 (List.replicate i 0)) ∧ Aside0 (Below w.heap.size w w')) (fun _ i _ => 2 - (intOf i).toNat)
  case atStart => exact ⟨0, Nat.zero_le _, rfl, ⟨Kd.R_nil _ _ _ _ _⟩, HB1⟩
  case round =>
    clear HB1
    obtain ⟨i, hi, rfl, HR, HB⟩ := hrel
    by_cases hlt : i < 2
    · have HL := Aside0.mk (show ((List.replicate i (0 : Int)).length + 1) * 8 ≤ 140737488355328 by rw [List.length_replicate]; omega)
      have HT := Aside0.mk (show List.replicate (i + 1) (0 : Int) = List.replicate i 0 ++ [0] from List.replicate_succ')
      have HX := Aside0.mk (HH.out wr HB.out)
      generalize List.replicate i (0 : Int) = xs at *
      go_wp2_with fail
      refine (HX.out).mono ?_
      rintro e w2 ⟨rfl, hd⟩
      have n0_ := Aside0.mk (Kd.R_below HR.out hd.below)
      have n1_ := Aside0.mk (below_step HB.out hd.below)
      clear HR HB hd HX
      have HR := n0_
      have HB := n1_
      clear n0_ n1_
      go_wp2_with (first | ((with_reducible refine gate_builtin (b := .append) (xs := #[.tmp 15, .tmp 17]) rfl ?_); at_builtin; refine Kd.R_append (Kd.int .i64) (w0 := w) w.heap.size rfl (.tmp 15) (.tmp 17) 22 3 (.int .i64 0) 8 rfl Try.underlying22 info3 rfl (by decide) (by omega) u5 xs 0 [.int .i64 0] (fun _ => True) (fun _ => False) rfl rfl ?aP (fun _ hk => hk.elim) ?aF ?aO ?aB ?aS ?aL ?_; (case aP => exact rfl); (case aB => exact HB.out); (case aF => exact (fun _ _ => trivial)); (case aO => exact HR.out); (case aS => exact (below_size HB.out)); (case aL => exact HL.out); intro v103 w5 ho hb hg hat; have n0_ := Aside0.mk (hb); have n1_ := Aside0.mk (ho); clear HB HR; have HB := n0_; have HR := n1_; clear n0_ n1_; clear ho hb hg hat))
      go_roundw
      case measure => simp [intOf]; omega
      case rel => exact ⟨i + 1, by omega, by go_num, ⟨by rw [HT.out]; exact HR.out⟩, HB⟩
    · obtain rfl : i = 2 := by omega
      go_wp2
      go_ret
      exact ⟨_, rfl, HR.out, HB.out⟩
end Go.Proofs.Ytjlbimnafbngaaa.Drawers
