/- The statement ScriptPull. -/
import Derived.Test.YtjlbimnafbngaaaSeededRef
import Derived.Test.YtjlbimnafbngaaaNoiseLaw
import Derived.Test.YtjlbimnafbngaaaPScriptRandsx1
import Derived.Deep.DeepCutAuto
namespace Go.Proofs.Ytjlbimnafbngaaa.Pull
open Go.RowKit Go.Proofs.YtjlbimnafbngaaaW.PrintWords Go.Proofs.YtjlbimnafbngaaaW.PrintLast Go.Proofs.YtjlbimnafbngaaaW.PrintMore Go.Proofs.Ytjlbimnafbngaaa.PScriptNoise

set_option linter.unusedSimpArgs false
set_option linter.unusedVariables false
/-- How many are drawn for the number a, and what is told. -/
def mm (a : Int) : Nat := if 0 ≤ a ∧ a ≤ 1048576 then a.toNat else 0
def er (a : Int) : Int := if a < 0 then 3 else if a > 1048576 then 2 else 0
theorem kinds (a : Int) : (er a = 0 ∧ a = (mm a : Int)) ∨ ((er a = 2 ∨ er a = 3) ∧ mm a = 0 ∧ (a < 0 ∨ a > 1048576)) := by
  unfold er mm
  by_cases h1 : a < 0
  · exact .inr ⟨by simp [h1], by rw [if_neg (by omega)], .inl h1⟩
  · by_cases h2 : a > 1048576
    · exact .inr ⟨by simp [h1, h2], by rw [if_neg (by omega)], .inr h2⟩
    · exact .inl ⟨by simp [h1, h2], by rw [if_pos (by omega)]; omega⟩
theorem mm_le (a : Int) : mm a ≤ 1048576 := by unfold mm; split <;> omega
theorem er_f (a : Int) : PScriptRands.plunderlaw10_refusal.f a = some (er a) := by unfold PScriptRands.plunderlaw10_refusal.f er; split <;> (try split) <;> rfl
theorem pull_any {σ : Type} {w0 : World} {T F : Nat} {v : Value} {next : σ → Int × σ} {D : World → σ → Prop} {S : Nat → Prop} (hs : Src w0 T F v next D S)
    (a : Int) (s : σ) (w : World) (hB : Below w0.heap.size w0 w) (hD : D w s) (hS : ∀ k, S k → k < w.heap.size) :
    Calls Try.prog 24 #[.iface T v, .int .i64 a] w fun e w' => ∃ u : Value, e = .returned (.tuple #[u, .int .i64 (er a)]) ∧ Kd.R (Kd.int .i64) 3 w' w0.heap.size (fun k => ¬ S k ∧ w.heap.size ≤ k) u (draws next (mm a) s) ∧ D w' (after next (mm a) s) ∧ Below w0.heap.size w0 w' ∧ Kept w w' S := by
  rcases kinds a with ⟨h1, h2⟩ | ⟨_, h2, h3⟩
  · rw [h1]
    have h := pull_ok hs (mm a) (mm_le a) s w hB hD hS
    rw [← h2] at h
    exact h
  · rw [h2]
    have he : er a = if a < 0 then 3 else 2 := by unfold er; rcases h3 with h | h <;> (repeat split) <;> first | rfl | omega
    rw [he]
    exact (pull_no T v a w h3).mono (fun e w' ⟨h1, hd⟩ => ⟨_, h1, Kd.R_nil _ _ _ _ _, hs.keep w w' s (fun _ => False) hD (Kept.of_below hd.below _) (fun _ _ h => h), below_step hB hd.below, Kept.of_below hd.below _⟩)

def P16 : Bool × List (List Nat × List Nat) := (true, [([], []), ([], []), ([], []), ([1, 2], [1, 2]), ([0, 3], [0, 3]), ([4], [4]), ([5, 4], [5]), ([6], [6]), ([7, 6, 6], [6, 7]), ([6], [6]), ([6], [6]), ([9, 10, 6], [6, 9, 10]), ([11, 6], [6, 11]), ([8, 12, 6], [6, 8, 12]), ([6, 13], [6, 13])])
def P16B : List Nat := [0, 0, 0, 6, 15, 31, 63, 127, 255, 127, 127, 1663, 3711, 8191, 16383]
theorem P16_tab : rtab .any (opsOf Try.f6 16) = P16 := by kernel_rfl
theorem P16_bits : waitsOk P16.2 P16B = true := by kernel_rfl

theorem same_f (l : List Int) (hm : l.length ≤ 9223372036854775806) : plunderlaw10_same.f (l.length + 1) l l = some true := by
  unfold plunderlaw10_same.f
  rw [if_pos rfl]
  exact Noise.same_loop l hm l.length 0 _ (by omega) (by omega)
theorem same_at (A0 A1 : Option Addr) (c0 c1 n : Nat) (l : List Int) (hl : l.length = n) (hn : n ≤ 4194304) (w : World) (h0 : Kd.C (Kd.int .i64) w A0 l.length l) (hc0 : n ≤ c0) (h1 : Kd.C (Kd.int .i64) w A1 l.length l) (hc1 : n ≤ c1) :
    Calls Try.prog 23 #[.slice A0 n c0, .slice A1 n c1] w fun e w' => e = .returned (.bool true) ∧ Drawn0 w w' := by
  have h := plunderlaw10_same.calls _ A0 c0 l A1 c1 l true w h0 (by omega) h1 (by omega) (same_f l (by omega))
  rw [hl] at h
  exact h
theorem take_pre (la lb : List Int) (y : Int) (A : Nat) (h : la.length = A) : (la ++ y :: lb).take A = la := by rw [List.take_append_of_le_length (by omega), List.take_of_length_le (by omega)]
theorem get_mid (la lb : List Int) (y : Int) (A : Nat) (h : la.length = A) : rdOf 0 (la ++ y :: lb) (A : Int) = y := by
  unfold rdOf
  rw [Int.toNat_natCast, List.getD_eq_getElem?_getD, List.getElem?_append_right (by omega), h, Nat.sub_self]
  rfl
theorem drop_post (la lb : List Int) (y : Int) (A B : Nat) (h : la.length = A) (hb : lb.length = B) : ((la ++ y :: lb).take (A + 1 + B)).drop (A + 1) = lb := by
  rw [List.take_of_length_le (by simp; omega), show A + 1 = la.length + 1 from by omega, List.drop_append]
  simp
theorem cell_mid {w : World} {base gl cl A : Nat} {ok : Nat → Prop} {L la lb : List Int} {y : Int} (h : Kd.R (Kd.int .i64) 3 w base ok (.slice (some ⟨gl, 0, none⟩) L.length cl) L) (hL : L = la ++ y :: lb) (hla : la.length = A) : w.cell? ⟨gl, A, none⟩ = some (.int .i64 y) := by
  have hl : L.length = A + 1 + lb.length := by rw [hL, List.length_append, List.length_cons, hla]; omega
  have hx := (Kd.R_celln 0 h (A : Int) (by omega) (by rw [hl]; omega)).1
  rw [Int.toNat_natCast] at hx
  rw [hx, hL, get_mid la lb y A hla]
theorem C_pre {w : World} {base n c A : Nat} {P : Option Addr} {ok : Nat → Prop} {L la lb : List Int} {y : Int} (h : Kd.R (Kd.int .i64) 3 w base ok (.slice P n c) L) (hL : L = la ++ y :: lb) (hla : la.length = A) : Kd.C (Kd.int .i64) w P la.length la := by
  have hl : L.length = A + 1 + lb.length := by rw [hL, List.length_append, List.length_cons, hla]; omega
  have h1 := Kd.C_take (m := A) (Kd.R_reads' h).2.2 (by omega)
  rw [show L.take A = la from by rw [hL]; exact take_pre la lb y A hla] at h1
  exact h1
theorem split_draws {σ : Type} (f : σ → Int × σ) (A B : Nat) (s : σ) : draws f (1 + A + B) s = draws f A s ++ ((f (after f A s)).1 :: draws f B (f (after f A s)).2) := by
  rw [show 1 + A + B = A + (1 + B) from by omega, draws_add, show 1 + B = B + 1 from by omega]
  rfl
set_option maxHeartbeats 4000000 in
set_option maxRecDepth 100000 in
theorem walk (x a b : Int) (w : World) : Calls Try.prog 6 #[.int .i64 x, .int .i64 a, .int .i64 b] w fun e w' => e = .returned (.bool true) ∧ Below w.heap.size w w' := by
  have HKa := Aside0.mk (kinds a)
  have HKb := Aside0.mk (kinds b)
  have HFa := Aside0.mk (er_f a)
  have HFb := Aside0.mk (er_f b)
  have hA := mm_le a
  have hBm := mm_le b
  have HPa := Aside0.mk (fun d g w1 => pull_any (seeded_src w d g) a x w1)
  have HPb := Aside0.mk (fun d g y w1 => pull_any (seeded_src w d g) b y w1)
  generalize mm a = A at *
  generalize mm b = B at *
  generalize er a = ea at *
  generalize er b = eb at *
  have HB := Aside0.mk (Below.refl w.heap.size w)
  go_enter Try.func6, Try.ntmps6
  go_wp2_with fail
  refine (seeded_calls x w w HB.out).mono ?_
  rintro e w1 ⟨d, g, rfl, hD, hd, hg, hb⟩
  have HD1 := Aside0.mk hD
  have HB1 := Aside0.mk hb
  have HGd := Aside0.mk hd
  have HGg := Aside0.mk hg
  clear hD hb hd hg HB
  go_wp2_with fail
  refine (PScriptRands.plunderlaw10_refusal.calls a ea _ HFa.out).mono ?_
  rintro e w2 ⟨rfl, hdr⟩
  have HD2 := Aside0.mk (show SeededAt w d g w2 x from ⟨blk_below HD1.out.1 hdr.below, HD1.out.2.below hdr.below⟩)
  have HB2 := Aside0.mk (below_step HB1.out hdr.below)
  clear hdr HB1 HD1
  go_upto_if 23 with fail
  go_cut [8] (fun v8 wc => v8 = .int .i64 ((1 + A : Nat) : Int) ∧ wc = w2)
  case first =>
    rcases HKa.out with ⟨e1, e2⟩ | ⟨e1, e2, _⟩
    · subst e1 e2
      have e3 : (A : Int) ≤ 1048576 := by omega
      go_wp2
      go_meet
      exact ⟨by congr 1 <;> omega, rfl⟩
    · subst e2
      have e4 : (ea == 0) = false := by rcases e1 with h | h <;> rw [h] <;> rfl
      clear e1
      go_wp2
      go_meet
      exact ⟨rfl, rfl⟩
  case rest =>
  obtain ⟨rfl, rfl⟩ := hcut
  go_wp2_with fail
  refine (PScriptRands.plunderlaw10_refusal.calls b eb _ HFb.out).mono ?_
  rintro e w3 ⟨rfl, hdr⟩
  have HD3 := Aside0.mk (show SeededAt w d g w3 x from ⟨blk_below HD2.out.1 hdr.below, HD2.out.2.below hdr.below⟩)
  have HB3 := Aside0.mk (below_step HB2.out hdr.below)
  clear hdr HB2 HD2
  go_upto_if 29 with fail
  go_cut [8] (fun v8 wc => v8 = .int .i64 ((1 + A + B : Nat) : Int) ∧ wc = w3)
  case first =>
    rcases HKb.out with ⟨e1, e2⟩ | ⟨e1, e2, _⟩
    · subst e1 e2
      have e3 : (B : Int) ≤ 1048576 := by omega
      have e4 : (A : Int) ≤ 1048576 := by omega
      go_wp2
      go_meet
      exact ⟨by congr 1 <;> omega, rfl⟩
    · subst e2
      have e4 : (eb == 0) = false := by rcases e1 with h | h <;> rw [h] <;> rfl
      clear e1
      go_wp2
      go_meet
      exact ⟨rfl, rfl⟩
  case rest =>
  obtain ⟨rfl, rfl⟩ := hcut
  have HRf := Aside0.mk (refseeded_calls (1 + A + B) (by omega) x wc)
  go_wp2_with fail
  refine (HRf.out).mono ?_
  rintro e w4 ⟨u, rfl, hr, hb⟩
  have hsz := below_size HB3.out
  have hdlt := blk_lt HD3.out.1
  have hglt := blk_lt HD3.out.2.1
  have HD4 := Aside0.mk (show SeededAt w d g w4 x from ⟨blk_below HD3.out.1 hb, HD3.out.2.below hb⟩)
  have HB4 := Aside0.mk (below_step HB3.out hb)
  have hlt4 := hb.size
  obtain ⟨gl, cl, rfl, _, _, _, _⟩ := Kd.R_form hr (by rw [draws_length]; omega)
  have HR4 := Aside0.mk (show Kd.R (Kd.int .i64) 3 w4 w.heap.size (fun k => ¬ (k = d ∨ k = g)) _ _ from Kd.R_mono (Kd.R_lower (Kd.R_bound hr) hsz) (fun k hk => by have := hk.2.1; omega))
  clear hb HB3 HD3 HRf hr
  have HP := Aside0.mk (HPa.out d g w4 HB4.out HD4.out (by rintro k (rfl | rfl) <;> omega))
  have HL := Aside0.mk (split_draws nextNum A B x)
  rw [draws_length]
  go_wp2_with fail
  refine (HP.out).mono ?_
  rintro e w5 ⟨v5, rfl, hr5, hD5, hB5, hk5⟩
  have HL5 := Aside0.mk (draws_length nextNum A x)
  have HR5 := Aside0.mk (Kd.R_kept HR4.out hk5 (fun k hk => hk))
  obtain ⟨A5, c5, rfl, _, _⟩ := Kd.R_reads hr5
  have HV5 := Aside0.mk hr5
  rw [HL5.out]
  clear hr5 hk5 HR4 HP HD4 HB4
  go_wp2_with fail
  refine (PScriptRands.plunderlaw10_refusal.calls a ea _ HFa.out).mono ?_
  rintro e w6 ⟨rfl, hdr⟩
  have HR6 := Aside0.mk (Kd.R_below HR5.out hdr.below)
  have HV6 := Aside0.mk (Kd.R_below HV5.out hdr.below)
  have HD6 := Aside0.mk (show SeededAt w d g w6 _ from ⟨blk_below hD5.1 hdr.below, hD5.2.below hdr.below⟩)
  have HB6 := Aside0.mk (below_step hB5 hdr.below)
  clear hdr HR5 HV5 hD5 hB5
  go_upto_if 48 with fail
  go_cut [10] (fun v10 wc => v10 = .int .i64 (A : Int) ∧ wc = w6)
  case first =>
    rcases HKa.out with ⟨e1, e2⟩ | ⟨e1, e2, _⟩
    · subst e1 e2
      go_wp2
      go_meet
      exact ⟨rfl, rfl⟩
    · subst e2
      have e4 : (ea == 0) = false := by rcases e1 with h | h <;> rw [h] <;> rfl
      clear e1
      go_wp2
      go_meet
      exact ⟨rfl, rfl⟩
  case rest =>
  obtain ⟨rfl, rfl⟩ := hcut
  obtain ⟨la, hla⟩ : ∃ la, draws nextNum A x = la := ⟨_, rfl⟩
  obtain ⟨lb, hlb⟩ : ∃ lb, draws nextNum B (nextNum (after nextNum A x)).2 = lb := ⟨_, rfl⟩
  obtain ⟨y, hy⟩ : ∃ y, (nextNum (after nextNum A x)).1 = y := ⟨_, rfl⟩
  have HLa := Aside0.mk (show la.length = A by rw [← hla]; exact HL5.out)
  have HLb := Aside0.mk (show lb.length = B by rw [← hlb, draws_length])
  have HY := Aside0.mk hy
  have HLB := Aside0.mk hlb
  rw [hla, hy, hlb] at HL
  rw [hla] at HV6
  clear HL5 hla hlb hy
  generalize draws nextNum (1 + A + B) x = L at *
  have HLL := Aside0.mk (show L.length = 1 + A + B by rw [HL.out, List.length_append, List.length_cons, HLa.out, HLb.out]; omega)
  go_upto_region 16 with fail
  go_cut [64] (fun v64 wz => v64 = .bool false ∧ Aside0 (Kd.R (Kd.int .i64) 3 wz w.heap.size (fun k => ¬ (k = d ∨ k = g)) (.slice (some ⟨gl, 0, none⟩) L.length cl) L) ∧ Aside0 (SeededAt w d g wz (nextNum (after nextNum A x)).2) ∧ Aside0 (Below w.heap.size w wz))
  case first =>
    have hdr := Drawn0.below (w := wc) (w' := wc.drew) ⟨⟨1, rfl⟩⟩
    have HR7 := Aside0.mk (Kd.R_below HR6.out hdr)
    have HV7 := Aside0.mk (Kd.R_below HV6.out hdr)
    have HD7 := Aside0.mk (show SeededAt w d g wc.drew (after nextNum A x) from ⟨blk_below HD6.out.1 hdr, HD6.out.2.below hdr⟩)
    have HB7 := Aside0.mk (below_step HB6.out hdr)
    have hx6 := cell_mid HR7.out HL.out HLa.out
    have hAcl := Aside0.mk (show A ≤ cl by have := (Kd.R_reads' HR7.out).2.1; have := HLL.out; omega)
    have h16 : (A ≤ cl) = True := eq_true hAcl.out
    have h17 : ((A : Int) < 1 + (A : Int) + (B : Int)) = True := eq_true (by omega)
    clear hdr HR6 HV6 HD6 HB6
    refine start_ (n := 15) (S := (fun w' => w'.cell? ⟨gl, A, none⟩ = some (.int .i64 y))) (ds := [14]) #[false, false, false, false, false, false, false, false, false, false, false, false, false, false, false] (by kernel_rfl) rfl rfl hx6 (fun hHeld => ?_); refine with_tabW P16_tab P16_bits (fun HT_ HW_ => ?_)
    generalize wc.drew = w7 at HR7 HV7 HD7 HB7 hHeld ⊢
    refine pure_ (i := 0) (N := some 50) (v := ?_) (a' := ?_) #[true, false, false, false, false, false, false, false, false, false, false, false, false, false, false] rfl rfl (any_of HT_.out (by kernel_rfl)) (fun _ _ _ h => h) (Or.inl ⟨by rfl, ?_⟩) ?_ ?_
    rotate_left
    · intro w'
      go_simp
      with_reducible rfl
    rotate_left
    · simp only [Act.put, List.setIfInBounds_toArray, List.set_cons_zero, List.set_cons_succ, i64_w, i32_w]
      rfl
    refine pure_ (i := 1) (N := some 51) (v := ?_) (a' := ?_) #[true, true, false, false, false, false, false, false, false, false, false, false, false, false, false] rfl rfl (any_of HT_.out (by kernel_rfl)) (fun _ _ _ h => h) (Or.inl ⟨by rfl, ?_⟩) ?_ ?_
    rotate_left
    · intro w'
      go_simp
      with_reducible rfl
    rotate_left
    · simp only [Act.put, List.setIfInBounds_toArray, List.set_cons_zero, List.set_cons_succ, i64_w, i32_w]
      rfl
    refine pure_ (i := 2) (N := some 52) (v := ?_) (a' := ?_) #[true, true, true, false, false, false, false, false, false, false, false, false, false, false, false] rfl rfl (any_of HT_.out (by kernel_rfl)) (fun _ _ _ h => h) (Or.inl ⟨by rfl, ?_⟩) ?_ ?_
    rotate_left
    · intro w'
      go_simp
      with_reducible rfl
    rotate_left
    · simp only [Act.put, List.setIfInBounds_toArray, List.set_cons_zero, List.set_cons_succ, i64_w, i32_w]
      rfl
    refine pure_ (i := 3) (N := some 53) (v := ?_) (a' := ?_) #[true, true, true, true, false, false, false, false, false, false, false, false, false, false, false] rfl rfl (any_of HT_.out (by kernel_rfl)) (fun _ _ _ h => h) (Or.inl ⟨by rfl, ?_⟩) ?_ ?_
    rotate_left
    · intro w'
      go_simp
      with_reducible rfl
    rotate_left
    · simp only [Act.put, List.setIfInBounds_toArray, List.set_cons_zero, List.set_cons_succ, i64_w, i32_w]
      rfl
    refine one_ (i := 4) (N := some 54) #[true, true, true, true, true, false, false, false, false, false, false, false, false, false, false] rfl rfl (one_of HT_.out (by kernel_rfl)) (by decide) (fun K hK => ?_)
    refine goes_ Try.func23 (by kernel_rfl) rfl #[.slice A5 A c5, .slice (some ⟨gl, 0, none⟩) A cl] (by rfl) rfl rfl (by (try simp only [List.map_toArray, List.map_cons, List.map_nil]); first | done | rfl) ?_
    with_reducible refine (same_at A5 (some ⟨gl, 0, none⟩) c5 cl A la HLa.out (by omega) w7 (Kd.R_reads' HV7.out).2.2 (by have := (Kd.R_reads' HV7.out).2.1; have := HLa.out; omega) (C_pre HR7.out HL.out HLa.out) hAcl.out).mono ?_
    rintro e w8 ⟨rfl, hdr⟩
    have HR8 := Aside0.mk (Kd.R_below HR7.out hdr.below)
    have HD8 := Aside0.mk (show SeededAt w d g w8 (after nextNum A x) from ⟨blk_below HD7.out.1 hdr.below, HD7.out.2.below hdr.below⟩)
    have HB8 := Aside0.mk (below_step HB7.out hdr.below)
    clear hdr HR7 HV7 HD7 HB7
    refine ⟨_, rfl, ?_⟩
    refine hK.out _ _ (cell_mid HR8.out HL.out HLa.out) (fun hHeld => ?_)
    clear hK K
    refine norm_ (a' := ?_) ?_ ?_
    rotate_left
    · show Act.put _ (some 54) _ = _
      simp only [Act.put, List.setIfInBounds_toArray, List.set_cons_zero, List.set_cons_succ, i64_w, i32_w]
      rfl
    refine pure_ (i := 5) (N := some 55) (v := ?_) (a' := ?_) #[true, true, true, true, true, true, false, false, false, false, false, false, false, false, false] rfl rfl (any_of HT_.out (by kernel_rfl)) (fun _ _ _ h => h) (Or.inl ⟨by rfl, ?_⟩) ?_ ?_
    rotate_left
    · intro w'
      go_simp
      with_reducible rfl
    rotate_left
    · simp only [Act.put, List.setIfInBounds_toArray, List.set_cons_zero, List.set_cons_succ, i64_w, i32_w]
      rfl
    refine pure_ (i := 6) (N := some 56) (v := ?_) (a' := ?_) #[true, true, true, true, true, true, true, false, false, false, false, false, false, false, false] rfl rfl (any_of HT_.out (by kernel_rfl)) (fun _ _ _ h => h) (Or.inl ⟨by rfl, ?_⟩) ?_ ?_
    rotate_left
    · intro w'
      go_simp
      with_reducible rfl
    rotate_left
    · simp only [Act.put, List.setIfInBounds_toArray, List.set_cons_zero, List.set_cons_succ, i64_w, i32_w]
      rfl
    refine pure_ (i := 7) (N := some 57) (v := ?_) (a' := ?_) #[true, true, true, true, true, true, true, true, false, false, false, false, false, false, false] rfl rfl (any_of HT_.out (by kernel_rfl)) (fun _ _ _ h => h) (Or.inl ⟨by rfl, ?_⟩) ?_ ?_
    rotate_left
    · intro w'
      go_simp
      with_reducible rfl
    rotate_left
    · simp only [Act.put, List.setIfInBounds_toArray, List.set_cons_zero, List.set_cons_succ, i64_w, i32_w]
      rfl
    refine pure_ (i := 9) (N := some 59) (v := ?_) (a' := ?_) #[true, true, true, true, true, true, true, true, false, true, false, false, false, false, false] rfl rfl (any_of HT_.out (by kernel_rfl)) (fun _ _ _ h => h) (Or.inl ⟨by rfl, ?_⟩) ?_ ?_
    rotate_left
    · intro w'
      go_simp
      with_reducible rfl
    rotate_left
    · simp only [Act.put, List.setIfInBounds_toArray, List.set_cons_zero, List.set_cons_succ, i64_w, i32_w]
      rfl
    refine pure_ (i := 10) (N := some 60) (v := ?_) (a' := ?_) #[true, true, true, true, true, true, true, true, false, true, true, false, false, false, false] rfl rfl (any_of HT_.out (by kernel_rfl)) (fun _ _ _ h => h) (Or.inl ⟨by rfl, ?_⟩) ?_ ?_
    rotate_left
    · intro w'
      go_simp
      with_reducible rfl
    rotate_left
    · simp only [Act.put, List.setIfInBounds_toArray, List.set_cons_zero, List.set_cons_succ, i64_w, i32_w]
      rfl
    refine pure_ (i := 11) (N := some 61) (v := ?_) (a' := ?_) #[true, true, true, true, true, true, true, true, false, true, true, true, false, false, false] rfl rfl (any_of HT_.out (by kernel_rfl)) (fun _ _ _ h => h) (Or.inl ⟨by rfl, ?_⟩) ?_ ?_
    rotate_left
    · intro w'
      go_simp
      with_reducible rfl
    rotate_left
    · simp only [Act.put, List.setIfInBounds_toArray, List.set_cons_zero, List.set_cons_succ, i64_w, i32_w]
      rfl
    refine take_ (i := 12) (N := some 62) (v := ?_) (a' := ?_) #[true, true, true, true, true, true, true, true, false, true, true, true, true, false, false] rfl rfl (take_ofW HT_.out HW_.out (by kernel_rfl)) (fun _ _ _ h => h) (Or.inl ⟨by rfl, ?_⟩) hHeld ?_ ?_
    rotate_left
    · rintro w' s0
      go_simp
      with_reducible rfl
    rotate_left
    · simp only [Act.put, List.setIfInBounds_toArray, List.set_cons_zero, List.set_cons_succ, i64_w, i32_w]
      rfl
    refine one_ (i := 8) (N := some 58) #[true, true, true, true, true, true, true, true, true, true, true, true, true, false, false] rfl rfl (one_of HT_.out (by kernel_rfl)) (by decide) (fun K hK => ?_)
    refine goes_ Try.func28 (by kernel_rfl) rfl #[.pointer (some ⟨d, 0, none⟩)] (by rfl) rfl rfl (by (try simp only [List.map_toArray, List.map_cons, List.map_nil]); first | done | rfl) ?_
    with_reducible refine (seeded_step w d g w8 (after nextNum A x) HB8.out HD8.out).mono ?_
    rintro e w9 ⟨rfl, hD9, hB9, hk9⟩
    have HR9 := Aside0.mk (Kd.R_kept HR8.out hk9 (fun k hk => hk))
    have HD9 := Aside0.mk hD9
    have HB9 := Aside0.mk hB9
    rw [HY.out]
    clear hD9 hB9 hk9 HR8 HD8 HB8
    refine ⟨_, rfl, ?_⟩
    refine hK.out _ _ (cell_mid HR9.out HL.out HLa.out) (fun hHeld => ?_)
    clear hK K
    refine norm_ (a' := ?_) ?_ ?_
    rotate_left
    · show Act.put _ (some 58) _ = _
      simp only [Act.put, List.setIfInBounds_toArray, List.set_cons_zero, List.set_cons_succ, i64_w, i32_w]
      rfl
    refine pure_ (i := 13) (N := some 63) (v := ?_) (a' := ?_) #[true, true, true, true, true, true, true, true, true, true, true, true, true, true, false] rfl rfl (any_of HT_.out (by kernel_rfl)) (fun _ _ _ h => h) (Or.inl ⟨by rfl, ?_⟩) ?_ ?_
    rotate_left
    · intro w'
      go_simp
      with_reducible rfl
    rotate_left
    · simp only [Act.put, List.setIfInBounds_toArray, List.set_cons_zero, List.set_cons_succ, i64_w, i32_w]
      rfl
    refine pure_ (i := 14) (N := some 64) (v := ?_) (a' := ?_) #[true, true, true, true, true, true, true, true, true, true, true, true, true, true, true] rfl rfl (any_of HT_.out (by kernel_rfl)) (fun _ _ _ h => h) (Or.inl ⟨by rfl, ?_⟩) ?_ ?_
    rotate_left
    · intro w'
      go_simp
      with_reducible rfl
    rotate_left
    · simp only [Act.put, List.setIfInBounds_toArray, List.set_cons_zero, List.set_cons_succ, i64_w, i32_w]
      rfl
    refine done_ (done_of HT_.out (by kernel_rfl)) ?_
    clear HT_ HW_ hHeld
    go_wp2_with fail
    go_meet
    exact ⟨rfl, HR9, HD9, HB9⟩
  case rest =>
  clear HR6 HV6 HD6 HB6
  obtain ⟨rfl, HR10, HD10, HB10⟩ := hcut
  have HP := Aside0.mk (HPb.out d g _ wc HB10.out HD10.out (by rintro k (rfl | rfl); exact blk_lt HD10.out.1; exact blk_lt HD10.out.2.1))
  rw [HLB.out] at HP
  go_wp2_with fail
  refine (HP.out).mono ?_
  rintro e w11 ⟨v11, rfl, hr11, hD11, hB11, hk11⟩
  have HR11 := Aside0.mk (Kd.R_kept HR10.out hk11 (fun k hk => hk))
  obtain ⟨A11, c11, rfl, _, _⟩ := Kd.R_reads hr11
  have HV11 := Aside0.mk hr11
  have HB11 := Aside0.mk hB11
  rw [HLb.out]
  clear hr11 hD11 hB11 hk11 HR10 HD10 HB10 HP
  go_wp2_with fail
  refine (pull_nil b w11).mono ?_
  rintro e w12 ⟨rfl, hdr⟩
  have HR12 := Aside0.mk (Kd.R_below HR11.out hdr.below)
  have HV12 := Aside0.mk (Kd.R_below HV11.out hdr.below)
  have HB12 := Aside0.mk (below_step HB11.out hdr.below)
  clear hdr HR11 HV11 HB11
  go_wp2_with fail
  refine (PScriptRands.plunderlaw10_refusal.calls b eb _ HFb.out).mono ?_
  rintro e w13 ⟨rfl, hdr⟩
  have HR13 := Aside0.mk (Kd.R_below HR12.out hdr.below)
  have HV13 := Aside0.mk (Kd.R_below HV12.out hdr.below)
  have HB13 := Aside0.mk (below_step HB12.out hdr.below)
  clear hdr HR12 HV12 HB12
  rcases HKb.out with ⟨e1, e2⟩ | ⟨e1, e2, _⟩
  · subst e1 e2
    have hcl := (Kd.R_reads' HR13.out).2.1
    rw [HLL.out] at hcl
    obtain ⟨i0, hi0, _, hz1, _⟩ := info_parts Mark.infoE
    obtain ⟨Q, hsl, hC⟩ : ∃ Q : Option Addr, (∀ W : World, (Instr.slice 22 (.slice (some ⟨gl, 0, none⟩) (1 + A + B) cl) (some (.int .i64 ((A : Int) + 1))) (some (.int .i64 ((A : Int) + 1 + B))) none).run Try.prog W = .ok (.slice Q B (cl - (A + 1))) W) ∧ Kd.C (Kd.int .i64) w13 Q lb.length lb := by
      have hm := Kd.C_mid (c := cl) (lo := A + 1) (hi := A + 1 + B) (Kd.R_reads' HR13.out).2.2 (by omega) (by rw [HLL.out]; omega) (by rw [HLL.out]; exact hcl)
      rw [HL.out, drop_post la lb y A B HLa.out HLb.out] at hm
      refine ⟨_, fun W => ?_, hm⟩
      have h := cut_mid (P := Try.prog) 22 3 .i64 .i64 Try.underlying22 hi0 1 hz1 (some ⟨gl, 0, none⟩) (1 + A + B) cl ((A : Int) + 1) ((A : Int) + 1 + B) (by omega) (by omega) (by omega) hcl W
      rw [show ((A : Int) + 1).toNat = A + 1 from by omega, show ((A : Int) + 1 + B).toNat = A + 1 + B from by omega, show A + 1 + B - (A + 1) = B from by omega] at h
      exact h
    have HS := Aside0.mk (same_at A11 Q c11 (cl - (A + 1)) B lb HLb.out (by omega) w13 (Kd.R_reads' HV13.out).2.2 (by have := (Kd.R_reads' HV13.out).2.1; have := HLb.out; omega) hC (by omega))
    clear hC hi0 hz1
    go_wp2_with fail
    refine (HS.out).mono ?_
    rintro e w14 ⟨rfl, hdr⟩
    have HB14 := Aside0.mk (below_step HB13.out hdr.below)
    clear hdr
    go_wp2
    go_ret
    exact ⟨rfl, HB14.out⟩
  · subst e2
    have e4 : (eb == 0) = false := by rcases e1 with h | h <;> rw [h] <;> rfl
    have e5 : (eb != 0) = true := by rcases e1 with h | h <;> rw [h] <;> rfl
    have e6 : eb ≠ 0 := by omega
    clear e1
    go_wp2
    go_ret
    exact ⟨rfl, HB13.out⟩
end Go.Proofs.Ytjlbimnafbngaaa.Pull
