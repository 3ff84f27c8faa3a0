/- The law ScriptNoise answers true for every seed and every three numbers. -/
import Derived.Test.YtjlbimnafbngaaaNoiseWalk
import Derived.Test.YtjlbimnafbngaaaNoisePure
import Derived.Test.YtjlbimnafbngaaaKeep
namespace Go.Proofs.Ytjlbimnafbngaaa.Noise
open Go.RowKit Go.Proofs.YtjlbimnafbngaaaW.PrintWords Go.Proofs.YtjlbimnafbngaaaW.PrintLast Go.Proofs.Ytjlbimnafbngaaa.BitMath Go.Proofs.Ytjlbimnafbngaaa.FairPure
open Go.Proofs.Ytjlbimnafbngaaa.PScriptNoise Go.Proofs.Ytjlbimnafbngaaa.Keep
set_option linter.unusedSimpArgs false

theorem same_loop (l : List Int) (hm : l.length ≤ 9223372036854775806) (d : Nat) : ∀ (i k : Nat), i + d = l.length → d < k → plunderlaw10_same.l0 k l l (i : Int) = some true := by
  induction d with
  | zero =>
    intro i k hi hk
    obtain ⟨k, rfl⟩ : ∃ m, k = m + 1 := ⟨k - 1, by omega⟩
    simp only [plunderlaw10_same.l0]
    rw [if_neg (by omega)]
  | succ d ih =>
    intro i k hi hk
    obtain ⟨k, rfl⟩ : ∃ m, k = m + 1 := ⟨k - 1, by omega⟩
    simp only [plunderlaw10_same.l0]
    rw [if_pos (by omega), if_pos (by omega), if_pos (by omega), if_pos trivial, wrap_id (a := (i : Int) + 1) (by unfold In64; omega)]
    exact ih (i + 1) k (by omega) (by omega)
theorem script_same (l m : List Int) (k : Nat) (hl : l.length < k) (hm : m.length < k) (hk : k ≤ 9223372036854775806) : plunderlaw10_sameScript.f k l m l m = some true := by
  unfold plunderlaw10_sameScript.f plunderlaw10_same.f
  rw [if_pos rfl, show plunderlaw10_same.l0 k l l 0 = some true from same_loop l (by omega) l.length 0 k (by omega) (by omega)]
  simp only [Option.bind_some, if_true]
  rw [show plunderlaw10_same.l0 k m m 0 = some true from same_loop m (by omega) m.length 0 k (by omega) (by omega)]
  rfl
theorem spoilt_loop (d : Nat) : ∀ (l : List Int) (i k : Nat), i + d = l.length → d < k → l.length < 17592186044416 → ∃ r, plunderlaw10_spoilt.l0 k l (i : Int) = some r ∧ r.length = l.length + 1 := by
  induction d with
  | zero =>
    intro l i k hi hk hl
    obtain ⟨k, rfl⟩ : ∃ m, k = m + 1 := ⟨k - 1, by omega⟩
    simp only [plunderlaw10_spoilt.l0]
    rw [if_neg (by omega), if_pos hl]
    exact ⟨_, rfl, by simp⟩
  | succ d ih =>
    intro l i k hi hk hl
    obtain ⟨k, rfl⟩ : ∃ m, k = m + 1 := ⟨k - 1, by omega⟩
    simp only [plunderlaw10_spoilt.l0]
    rw [if_pos (by omega), if_pos (by omega), wrap_id (a := (i : Int) + 1) (by unfold In64; omega)]
    obtain ⟨r, h1, h2⟩ := ih (l.set (i : Int).toNat (wrap64 (-1 - (i : Int)))) (i + 1) k (by rw [List.length_set]; omega) (by omega) (by rw [List.length_set]; exact hl)
    exact ⟨r, h1, by rw [h2, List.length_set]⟩
theorem spoilt_f (l : List Int) (hl : l.length < 17592186044416) : ∃ r, plunderlaw10_spoilt.f (l.length + 1) l = some r ∧ r.length = l.length + 1 :=
  spoilt_loop l.length l 0 _ (by omega) (by omega) hl
theorem noiseR_len (x a n len : Int) : (noiseR x a n len).1.length = (noiseR x a n len).2.1.length ∧ (noiseR x a n len).1.length ≤ 1048576 := by
  unfold noiseR
  repeat' split
  all_goals simp [noise_length]
  omega
theorem R_exact {e : Nat} {w : World} {base : Nat} {ok : Nat → Prop} {v : Value} {xs : List Int} (h : (Kd.int .i64).R e w base ok v xs) : (Kd.int .i64).R e w base (fun k => v.ownBlock = some k) v xs :=
  Kd.R_of_own (Kd.own_of_R h) (fun _ hk => hk)
theorem R_kept {e : Nat} {w w1 : World} {base : Nat} {ok S : Nat → Prop} {v : Value} {xs : List Int} (h : (Kd.int .i64).R e w base ok v xs) (hk : Kept w w1 S) (hn : ∀ k, v.ownBlock = some k → ¬ S k) : (Kd.int .i64).R e w1 base ok v xs :=
  Kd.R_mono (Kd.R_step (R_exact h) (fun k hb hlt => hk.2 k hlt (hn k hb))) (fun k hb => h.1 k hb)

set_option maxHeartbeats 4000000 in
set_option maxRecDepth 100000 in
theorem law (x a n len : Int) (w : World) (hn : In64 n) :
    Calls Try.prog 11 #[.int .i64 x, .int .i64 a, .int .i64 n, .int .i64 len] w fun e w' => e = .returned (.bool true) ∧ Below w.heap.size w w' := by
  have HN := Aside0.mk (fun w => noise_calls x a n len w (by unfold In64 at hn; omega))
  have hr := ref_f x a n len hn
  obtain ⟨hlen, hmax⟩ := noiseR_len x a n len
  generalize noiseR x a n len = r at HN hr hlen hmax
  obtain ⟨ps, ds, er⟩ := r
  simp only at hlen hmax
  have HR := Aside0.mk hr
  have HLen := Aside0.mk hlen
  have hdm : ds.length ≤ 1048576 := by omega
  have HMax := Aside0.mk hmax
  have HDm := Aside0.mk hdm
  obtain ⟨sp, hsp, hspl⟩ := spoilt_f ps (by omega)
  obtain ⟨sd, hsd, hsdl⟩ := spoilt_f ds (by omega)
  have HSP := Aside0.mk hsp
  have HSD := Aside0.mk hsd
  have HSS := Aside0.mk (script_same ps ds 1048577 (by omega) (by omega) (by omega))
  have HSL := Aside0.mk (show sp.length = sd.length by omega)
  clear hr hlen hmax hdm hsp hsd hspl hsdl
  go_enter Try.func11, Try.ntmps11
  go_wp2_with fail
  refine (HN.out _).mono ?_
  rintro e w1 ⟨p1, d1, rfl, rp1, rd1, hb1⟩
  obtain ⟨Ap1, cp1, rfl, hp1, hC1⟩ := Kd.R_reads rp1
  obtain ⟨Ad1, cd1, rfl, hd1, hD1⟩ := Kd.R_reads rd1
  have B9 := Aside0.mk (blk_new w1 (.cells #[.slice Ap1 ps.length cp1, .slice Ad1 ds.length cd1] 24))
  have RP1 := Aside0.mk (Kd.R_alloc rp1 (.cells #[.slice Ap1 ps.length cp1, .slice Ad1 ds.length cd1] 24))
  have RD1 := Aside0.mk (Kd.R_alloc rd1 (.cells #[.slice Ap1 ps.length cp1, .slice Ad1 ds.length cd1] 24))
  have HB := Aside0.mk (below_alloc hb1 (.cells #[.slice Ap1 ps.length cp1, .slice Ad1 ds.length cd1] 24))
  have CP1 := Aside0.mk hp1
  have CD1 := Aside0.mk hd1
  have CC1 := Aside0.mk hC1
  clear rp1 rd1 hb1 hp1 hd1 hC1 hD1
  go_wp2_with fail
  generalize w1.alloc (.cells #[.slice Ap1 ps.length cp1, .slice Ad1 ds.length cd1] 24) = W1 at B9 RP1 RD1 HB ⊢
  generalize w1.heap.size = g9 at B9 ⊢
  refine (HN.out _).mono ?_
  rintro e w2 ⟨p2, d2, rfl, rp2, rd2, hb2⟩
  obtain ⟨Ap2, cp2, rfl, hp2, _⟩ := Kd.R_reads rp2
  obtain ⟨Ad2, cd2, rfl, hd2, _⟩ := Kd.R_reads rd2
  have B11 := Aside0.mk (blk_new w2 (.cells #[.slice Ap2 ps.length cp2, .slice Ad2 ds.length cd2] 24))
  have RP2 := Aside0.mk (Kd.R_alloc rp2 (.cells #[.slice Ap2 ps.length cp2, .slice Ad2 ds.length cd2] 24))
  have RD2 := Aside0.mk (Kd.R_alloc rd2 (.cells #[.slice Ap2 ps.length cp2, .slice Ad2 ds.length cd2] 24))
  have HB2 := Aside0.mk (below_alloc hb2 (.cells #[.slice Ap2 ps.length cp2, .slice Ad2 ds.length cd2] 24))
  have GL := Aside0.mk (below_size hb2)
  clear rp2 rd2 hb2 hp2 hd2
  go_wp2_with fail
  generalize w2.alloc (.cells #[.slice Ap2 ps.length cp2, .slice Ad2 ds.length cd2] 24) = W2 at B11 RP2 RD2 HB2 ⊢
  have GE := Aside0.mk GL.out
  generalize w2.heap.size = g11 at B11 GE ⊢
  refine (plunderlaw10_spoilt.calls (ps.length + 1) _ _ ps sp W1 W2 HB2.out (R_exact RP2.out) HSP.out).mono ?_
  rintro e w3 ⟨v3, rfl, r3, hb3, hk3⟩
  have B113 := Aside0.mk ((hk3.2 g11 (blk_lt B11.out) (fun h => Kd.R_ne RP2.out B11.out (by decide) h.symm)).trans B11.out)
  have RD3 := Aside0.mk (R_kept RD2.out hk3 (fun k h1 h2 => RD2.out.1 k h1 h2.symm))
  have HB3 := Aside0.mk hb3
  obtain ⟨A3, c3, rfl, _, _⟩ := Kd.R_reads r3
  clear hb3 hk3 r3 B11 RP2 RD2 HB2 HSP
  have hc0 : w3.cell? ⟨g11, 0, none⟩ = some (.slice Ap2 ps.length cp2) := (blk_cell B113.out 0).trans rfl
  have hc1 : w3.cell? ⟨g11, 1, none⟩ = some (.slice Ad2 ds.length cd2) := (blk_cell B113.out 1).trans rfl
  have hf0 := blk_frozen B113.out 0
  go_wp2_with fail
  clear hc0 hc1 hf0
  have B114 := Aside0.mk (blk_put B113.out 0 (.slice A3 sp.length c3) rfl)
  have RD4 := Aside0.mk (Kd.R_set RD3.out B113.out (by decide) 0 (.slice A3 sp.length c3))
  have HB4 := Aside0.mk (below_set (j := 0) (v := .slice A3 sp.length c3) HB3.out GE.out)
  clear B113 RD3 HB3
  generalize w3.setCell ⟨g11, 0, none⟩ (.slice A3 sp.length c3) = w4 at B114 RD4 HB4 ⊢
  refine (plunderlaw10_spoilt.calls (ds.length + 1) _ _ ds sd W1 w4 HB4.out (R_exact RD4.out) HSD.out).mono ?_
  rintro e w5 ⟨v5, rfl, r5, hb5, hk5⟩
  have B115 := Aside0.mk ((hk5.2 g11 (blk_lt B114.out) (fun h => Kd.R_ne RD4.out B114.out (by decide) h.symm)).trans B114.out)
  have HB5 := Aside0.mk hb5
  obtain ⟨A5, c5, rfl, _, _⟩ := Kd.R_reads r5
  clear hb5 hk5 r5 B114 RD4 HB4 HSD
  have hc1 : w5.cell? ⟨g11, 1, none⟩ = some (.slice Ad2 ds.length cd2) := (blk_cell B115.out 1).trans rfl
  have hf1 := blk_frozen B115.out 1
  have B116 := Aside0.mk (blk_put B115.out 1 (.slice A5 sd.length c5) rfl)
  have HB6 := Aside0.mk (below_set (j := 1) (v := .slice A5 sd.length c5) HB5.out GE.out)
  have B96 := Aside0.mk (blk_below B9.out HB6.out)
  have RP6 := Aside0.mk (Kd.R_below RP1.out HB6.out)
  have RD6 := Aside0.mk (Kd.R_below RD1.out HB6.out)
  have HBw6 := Aside0.mk (below_step HB.out HB6.out)
  have CC6 := Aside0.mk (Kd.R_reads' RP6.out).2.2
  have hc90 : (w5.setCell ⟨g11, 1, none⟩ (.slice A5 sd.length c5)).cell? ⟨g9, 0, none⟩ = some (.slice Ap1 ps.length cp1) := (blk_cell B96.out 0).trans rfl
  have HPl := Aside0.mk (show (ps.length + 1) * 8 ≤ 140737488355328 by have := HMax.out; omega)
  clear B115 HB5 B9 RP1 RD1 HB CC1 HB6
  have hst : ∀ K : World → Prop, K (w5.setCell ⟨g11, 1, none⟩ (.slice A5 sd.length c5)) → True := fun _ _ => trivial
  clear hst
  go_wp2_with (first | ((with_reducible refine gate_store (t := 22) (p := 39) rfl ?_); refine store_event (t := 22) (p := 39) (v := ?vo) (w1 := (w5.setCell ⟨g11, 1, none⟩ (.slice A5 sd.length c5))) ?hg ?ho ?hn ?hr ?_; (case ho => rfl); (case hg => rfl); (case hn => rfl); (case hr => first | (go_simp; done) | (go_simp; rfl)); intro w6 hw; rw [← hw] at hc90; have n1 := Aside0.mk (show w6.heap[g11]? = some (.cells #[.slice A3 sp.length c3, .slice A5 sd.length c5] 24 (0, 0)) from by rw [hw]; exact B116.out); have n2 := Aside0.mk (show w6.heap[g9]? = some (.cells #[.slice Ap1 ps.length cp1, .slice Ad1 ds.length cd1] 24 (0, 0)) from by rw [hw]; exact B96.out); have n3 := Aside0.mk (show RI w6 w.heap.size (fun k => some k ≠ (Value.slice Ad1 ds.length cd1).ownBlock) (.slice Ap1 ps.length cp1) ps from by rw [hw]; exact RP6.out); have n4 := Aside0.mk (show RI w6 w.heap.size (fun k => some k ≠ (Value.slice Ap1 ps.length cp1).ownBlock) (.slice Ad1 ds.length cd1) ds from by rw [hw]; exact RD6.out); have n5 := Aside0.mk (show Below w.heap.size w w6 from by rw [hw]; exact HBw6.out); have n6 := Aside0.mk (show Kd.C (Kd.int .i64) w6 Ap1 ps.length ps from by rw [hw]; exact CC6.out); clear hw B116 B96 RP6 RD6 HBw6 CC6 hc1 hf1; have B116 := n1; have B96 := n2; have RP6 := n3; have RD6 := n4; have HBw6 := n5; have CC6 := n6; clear n1 n2 n3 n4 n5 n6) | ((with_reducible refine gate_builtin (b := .append) (xs := #[.tmp 41, .tmp 42]) rfl ?_); at_builtin; refine int_append (w0 := w) w.heap.size rfl (.tmp 41) (.tmp 42) 22 3 .i64 8 rfl Try.underlying22 info3 (by omega) (.slice Ap1 ps.length cp1) ps (-7) (fun k => some k ≠ (Value.slice Ad1 ds.length cd1).ownBlock) rfl rfl ?aF ?aO ?aB ?aS ?aL ?_; (case aF => exact Kd.fresh' (Kd.R_lt RD6.out)); (case aO => exact RP6.out); (case aB => exact HBw6.out); (case aS => exact below_size HBw6.out); (case aL => exact HPl.out); intro v7 w7 ho hb hg hat hh; have CC7 := Aside0.mk (C_of_held CC6.out hh); have RD7 := Aside0.mk (Kd.R_grown RD6.out hg (fun k hk => hk)); have B97 := Aside0.mk (blk_grown B96.out hg (Kd.R_ne RP6.out B96.out (by decide))); have B117 := Aside0.mk (blk_grown B116.out hg (Kd.R_ne RP6.out B116.out (by decide))); have HBw7 := Aside0.mk hb; obtain ⟨A7, c7, e7⟩ := Kd.R_slice ho; subst e7; clear ho hb hg hat hh CC6 RD6 B96 B116 HBw6 RP6 hc90) | fail)
  refine (plunderref10_Noise.calls 1048900 x a n len ps ds er _ HR.out).mono ?_
  rintro e w8 ⟨p8, d8, rfl, r8, s8, hb8⟩
  obtain ⟨A8, c8, rfl, hp8, hC8⟩ := Kd.R_reads r8
  obtain ⟨D8, k8, rfl, hd8, hD8⟩ := Kd.R_reads s8
  have hal := below_alloc (Below.refl w8.heap.size w8) (.cells #[.slice A8 ps.length c8, .slice D8 ds.length k8] 24)
  have HBw8 := Aside0.mk (below_step (below_step HBw7.out hb8) hal)
  have B98 := Aside0.mk (blk_below (blk_below B97.out hb8) hal)
  have B118 := Aside0.mk (blk_below (blk_below B117.out hb8) hal)
  have CP8 := Aside0.mk (Kd.C_below (Kd.C_below CC7.out hb8) hal)
  have CD8 := Aside0.mk (Kd.C_below (Kd.C_below (Kd.R_reads' RD7.out).2.2 hb8) hal)
  have CA8 := Aside0.mk (Kd.C_below hC8 hal)
  have CB8 := Aside0.mk (Kd.C_below hD8 hal)
  have hc0 : (w8.alloc (.cells #[.slice A8 ps.length c8, .slice D8 ds.length k8] 24)).cell? ⟨g9, 0, none⟩ = some (.slice Ap1 ps.length cp1) := (blk_cell B98.out 0).trans rfl
  have hc1 : (w8.alloc (.cells #[.slice A8 ps.length c8, .slice D8 ds.length k8] 24)).cell? ⟨g9, 1, none⟩ = some (.slice Ad1 ds.length cd1) := (blk_cell B98.out 1).trans rfl
  have HP8 := Aside0.mk hp8
  have HD8 := Aside0.mk hd8
  clear r8 s8 hb8 hal hC8 hD8 hp8 hd8 CC7 RD7 B97 B117 HBw7 HR
  go_wp2_with fail
  refine (plunderlaw10_sameScript.calls 1048577 Ap1 cp1 ps Ad1 cd1 ds A8 c8 ps D8 k8 ds true _ CP8.out CP1.out CD8.out CD1.out CA8.out HP8.out CB8.out HD8.out HSS.out).mono ?_
  rintro e w9 ⟨rfl, hb9⟩
  have B119 := Aside0.mk (blk_below B118.out hb9)
  have HBw9 := Aside0.mk (below_step HBw8.out hb9)
  have hc2 : w9.cell? ⟨g11, 0, none⟩ = some (.slice A3 sp.length c3) := (blk_cell B119.out 0).trans rfl
  have hc3 : w9.cell? ⟨g11, 1, none⟩ = some (.slice A5 sd.length c5) := (blk_cell B119.out 1).trans rfl
  have hl := HSL.out
  clear hb9 HBw8 B118 CP8 CD8 CA8 CB8 hc0 hc1 HSL
  rw [hl] at hc2
  clear hl
  go_wp2
  go_ret
  exact ⟨by simp, HBw9.out⟩
end Go.Proofs.Ytjlbimnafbngaaa.Noise
