/- The document's run: a deed that returns. -/
import Derived.Test.YtamfkglnejhjdaaDoorRefDeed
namespace Go.Proofs.YtamfkglnejhjdaaDoor.Ref
open Go.RowKit Go.Proofs.YtamfkglnejhjdaaDoorW.PrintWords Go.Proofs.YtamfkglnejhjdaaDoorW.PrintLast Go.Proofs.YtamfkglnejhjdaaDoorW.PrintMore Go.Proofs.YtamfkglnejhjdaaDoor.PHyperFold
set_option linter.unusedVariables false
set_option linter.unusedSimpArgs false

open Go.Proofs.YtamfkglnejhjdaaDoor.Play Go.Proofs.YtamfkglnejhjdaaDoor.QuietCall
open Go.Proofs.YtamfkglnejhjdaaDoor.PlayState (ints ints_length ints_getD ints_erase Bd)
def R40d : Bool × List (List Nat × List Nat) := (true, [([], []), ([0], [0]), ([1], [1]), ([2], [2]), ([], []), ([4], [4]), ([3, 5], [3, 5]), ([6], [6]), ([7], [7]), ([8, 5, 0, 1, 2, 3, 4, 5, 6, 7, 8], [8])])
def R40dB : List Nat := [0, 1, 3, 7, 0, 16, 63, 127, 255, 511]
theorem R40d_tab : rtab .any (opsOf Tryd.f49 17) = R40d := by kernel_rfl
theorem R40d_bits : waitsOk R40d.2 R40dB = true := by kernel_rfl
def R40e : Bool × List (List Nat × List Nat) := (true, [([], []), ([], []), ([], []), ([2], [2]), ([3], [3]), ([4], [4]), ([], []), ([6], [6]), ([5, 7], [5, 7]), ([1, 8, 7], [1, 8]), ([0, 0, 1, 2, 3, 4, 5, 6, 7, 8, 9], [0]), ([10, 0, 1, 2, 3, 4, 5, 6, 7, 8, 9], [10]), ([11, 9, 9, 0, 1, 2, 3, 4, 5, 6, 7, 8, 9], [9, 11])])
def R40eB : List Nat := [0, 0, 0, 4, 12, 28, 0, 64, 252, 510, 1023, 2047, 4095]
theorem R40e_tab : rtab .any (opsOf Tryd.f49 18) = R40e := by kernel_rfl
theorem R40e_bits : waitsOk R40e.2 R40eB = true := by kernel_rfl
def R40f : Bool × List (List Nat × List Nat) := (true, [([], []), ([0], [0]), ([1], [1]), ([2], [2]), ([], []), ([4], [4]), ([], []), ([], []), ([7], [7]), ([8], [8]), ([9], [9]), ([], []), ([11, 5], [11]), ([10, 12], [10, 12]), ([13], [13]), ([14], [14]), ([6, 15, 12], [6, 15]), ([], []), ([17], [17]), ([16, 18, 16], [16, 18]), ([3, 5, 0, 1, 2, 3, 4, 5, 6, 7, 8, 9, 10, 11, 12, 13, 14, 15, 16, 17, 18, 19], [3, 5]), ([20, 0, 1, 2, 3, 4, 5, 6, 7, 8, 9, 10, 11, 12, 13, 14, 15, 16, 17, 18, 19], [20]), ([21, 19, 19, 0, 1, 2, 3, 4, 5, 6, 7, 8, 9, 10, 11, 12, 13, 14, 15, 16, 17, 18, 19], [19, 21])])
def R40fB : List Nat := [0, 1, 3, 7, 0, 16, 0, 0, 128, 384, 896, 0, 2096, 8112, 16304, 32688, 65520, 0, 131072, 524272, 1048575, 2097151, 4194303]
theorem R40f_tab : rtab .any (opsOf Tryd.f49 21) = R40f := by kernel_rfl
theorem R40f_bits : waitsOk R40f.2 R40fB = true := by kernel_rfl

set_option maxHeartbeats 8000000 in
set_option maxRecDepth 100000 in
theorem deed_back {w0 w : World} {gr : Nat} {F : List Int → Int} {op un : Int} {ps : List Int} {s : St (List Int)} {L : List Int} {n : Nat} (h : RT w0 w gr F op un ps s) (hB : Bd n s L) (hn : n ≤ 100000) (t : Nat) {X : Int → Prop} (hAp : JoinOk w0 gr op F X) (hX : ∀ y, y ∈ L → X y) (hps : ps.length ≤ 1048576) (hF0 : F [] = un) (hup : s.up ≠ []) (st : List Bool) (sA : Option Addr) (sc : Nat) (hS : Kd.C Kd.bool w0 sA st.length st) (hsl : st.length ≤ 4096) (x : Int) :
    Calls Tryd.prog 49 #[.pointer (some ⟨gr, 0, none⟩), .int .i64 (t : Int), .agg #[.int .i64 1, .int .i64 x], .slice sA st.length sc] w fun e w' => e = .returned (.tuple #[]) ∧ RT w0 w' gr F op un ps ((s.merge red t).back red st) := by
  obtain ⟨g, hrs, hrep, hsn, hsp⟩ := h
  obtain ⟨Pst, hI, hE⟩ : ∃ Pst : World → Prop, (∀ w', RT w0 w' gr F op un ps ((s.merge red t).back red st) → Pst w') ∧ (∀ w', Pst w' → RT w0 w' gr F op un ps ((s.merge red t).back red st)) := ⟨_, fun _ h => h, fun _ h => h⟩
  have HI := Aside0.mk hI
  refine Calls.mono (?_ : Calls Tryd.prog 49 #[.pointer (some ⟨gr, 0, none⟩), .int .i64 (t : Int), .agg #[.int .i64 1, .int .i64 x], .slice sA st.length sc] w fun e w' => e = .returned (.tuple #[]) ∧ Pst w') (fun e w' ⟨h1, h2⟩ => ⟨h1, hE w' h2⟩)
  clear hI hE
  have hhl := hB.cur.2.2.1
  obtain ⟨hd, hhd⟩ : ∃ hd, s.hand = hd := ⟨_, rfl⟩
  have hvl := hrep.views_len
  obtain ⟨y, hy⟩ : ∃ y, s.views.getD hd [] = y := ⟨_, rfl⟩
  have hyl : y.length ≤ n := by
    have := hB.cur
    rw [← hy, ← hhd]
    exact this.2.2.2.1 _ this.2.2.1 this.2.2.2.2
  have hd2 : (hd : Int) ≤ 4194304 := by have := hB.views; omega
  have HAp := Aside0.mk hAp
  have HX := Aside0.mk hX
  have HPs := Aside0.mk hps
  have HF0 := Aside0.mk hF0
  have HUp := Aside0.mk hup
  have HS := Aside0.mk hS
  have hsl2 : (st.length : Int) ≤ 4096 := by omega
  clear hAp hX hps hF0 hup hS hsl
  obtain ⟨b, hb⟩ : ∃ b, w.heap.size = b := ⟨_, rfl⟩
  have HW1 := Aside0.mk (below_alloc (Below.refl w.heap.size w) (.cells #[.int .i64 1, .int .i64 x] 46))
  have HBk := Aside0.mk (show (w.alloc (.cells #[.int .i64 1, .int .i64 x] 46)).heap[b]? = some (.cells #[.int .i64 1, .int .i64 x] 46 (0, 0)) from hb ▸ heap_alloc_new _ _)
  have HRS := Aside0.mk hrs
  have HRep := Aside0.mk hrep
  have HB := Aside0.mk hB
  have HN := Aside0.mk hn
  have HH := Aside0.mk (And.intro hhd (And.intro hhl hy))
  have HYL := Aside0.mk hyl
  have HSp := Aside0.mk (And.intro hsn hsp)
  have HVL := Aside0.mk hvl
  have HOp := Aside0.mk hrep.op
  clear hrs hrep hB hn hhl hy hsn hsp hyl
  go_enter Tryd.func49, Tryd.ntmps49
  go_wp2_with fail
  refine (hand_at (HRS.out.below HW1.out) HRep.out HB.out HN.out).mono ?_
  rintro e w2 ⟨rfl, hdr⟩
  rw [HH.out.1]
  have HRS2 := Aside0.mk ((HRS.out.below HW1.out).below hdr.below)
  have HBk2 := Aside0.mk (blk_below HBk.out hdr.below)
  clear hdr HRS HW1 HBk hhd hvl
  have HHb := Aside0.mk hb
  have xk : w2.cell? ⟨b, 0, none⟩ = some (.int .i64 1) := (blk_cell HBk2.out 0).trans rfl
  clear hb
  go_wp2_with fail
  obtain ⟨pre, hmi, _⟩ := HB.out.inv.mi
  obtain ⟨hne, hl, _⟩ := HB.out.cur
  refine (merge_calls HRS2.out HRep.out t hmi HAp.out HX.out (by have := HB.out.len; have := HN.out; omega) (by have := HB.out.views; have := HN.out; omega) (by have := HN.out; omega) (by have := HB.out.up; have := HN.out; omega) HPs.out).mono ?_
  rintro e w3 ⟨rfl, g3, hrs3, hrep3, hsn3, hts3⟩
  have HB3 := Aside0.mk (HB.out.merge t)
  obtain ⟨cx, hcx⟩ : ∃ x, (s.merge red t).cur = [x] := by
    obtain ⟨_, x, _, h, _⟩ := HB.out.inv.merge t
    exact ⟨x, h⟩
  obtain ⟨s3, hs3⟩ : ∃ s3, s.merge red t = s3 := ⟨_, rfl⟩
  rw [hs3] at hcx
  have hup3 : s3.up = s.up := by rw [← hs3]; rfl
  have hsp3 : s3.spawns = s.spawns := by rw [← hs3]; rfl
  have hct3 : s3.count = s.count := by rw [← hs3]; rfl
  rw [hs3] at hrep3 HB3 HI
  obtain ⟨r, up, hupe⟩ : ∃ r up, s3.up = r :: up := by
    rw [hup3]
    cases hu : s.up with
    | nil => exact absurd hu HUp.out
    | cons r up => exact ⟨r, up, rfl⟩
  obtain ⟨sp0, sps, hspe⟩ : ∃ a l, s3.spawns = a :: l := by
    have h1 := HB3.out.inv.spawns
    rw [hupe] at h1
    cases hu : s3.spawns with
    | nil => rw [hu] at h1; simp at h1
    | cons a l => exact ⟨a, l, rfl⟩
  have HRlen := Aside0.mk (show r.length ≤ 100001 from by
    have h := (HB3.out.leave hcx hupe).cur.2.1
    rw [show s3.leave.cur = r by show s3.up.headD [] = r; rw [hupe]; rfl] at h
    have := HN.out
    omega)
  clear hcx
  obtain ⟨tl, sp1, hts, htl1, htl2⟩ := hrep3.last
  have hf0 : tl.map (fun t : S96 => t.f0) = (-1) :: ints sps.reverse ∧ sp1 = (sp0 : Int) := by
    have h1 := hts3
    rw [HSp.out.2, hts, List.map_append, ← hsp3, hspe] at h1
    have h2 : tl.map (fun t : S96 => t.f0) ++ [sp1] = ((-1) :: ints sps.reverse) ++ [(sp0 : Int)] := by rw [show [sp1] = [(⟨sp1, ints s3.cur⟩ : S96)].map (fun t : S96 => t.f0) from rfl, h1]; simp [ints]
    have h3 := List.append_inj' h2 rfl
    exact ⟨h3.1, by simpa using h3.2⟩
  obtain ⟨hf0, rfl⟩ := hf0
  obtain ⟨k, hk⟩ : ∃ k, tl.length = k := ⟨_, rfl⟩
  have HKL := Aside0.mk (show k ≤ 100000 by rw [← hk, htl2]; have := HB3.out.up; have := HN.out; omega)
  obtain ⟨tb, tc, A1, c1, htk, yk, _, _, hRl⟩ := hrs3.task_R k (by rw [hts, List.length_append, hk]; simp)
  have hgk : g3.ts.getD k z96 = ⟨(sp0 : Int), ints s3.cur⟩ := by rw [hts, ← hk]; simp
  rw [hgk] at yk
  replace yk : w3.cell? ⟨tb, k * 2, none⟩ = some (.int .i64 (sp0 : Int)) := yk
  have htk2 : g3.tk = (some ⟨tb, 0, none⟩, k + 1, tc) := by rw [htk, hts, List.length_append, hk]; rfl
  have HTK := Aside0.mk htk2
  have x3 : w3.cell? ⟨gr, 3, none⟩ = some (.slice (some ⟨tb, 0, none⟩) (k + 1) tc) := by rw [hrs3.cell.2.2.2.1, htk2]; rfl
  have hkc : k + 1 ≤ tc := by
    have h := (R_header hrs3.rw.t).2.1
    rw [hts, List.length_append, hk, htk2] at h
    exact h
  have HC17 := Aside0.mk (And.intro x3 yk)
  have HRS3 := Aside0.mk hrs3
  have HRep3 := Aside0.mk hrep3
  have HQ3 := Aside0.mk (And.intro hsn3 (And.intro hct3 (And.intro hupe (And.intro hspe (And.intro hts (And.intro hf0 (And.intro htl1 hk)))))))
  have hk2 : (k : Int) ≤ 100000 := by have := HKL.out; omega
  have l1 : ((k : Int) < (k : Int) + 1) = True := eq_true (by omega)
  obtain ⟨i0, hi0, hz1⟩ : ∃ i, Tryd.prog.info? 96 = some i ∧ i.size = 2 := by
    have h := infoTask
    cases e : Tryd.prog.info? 96 with
    | none => rw [e] at h; cases h
    | some i => rw [e] at h; injection h with h; injection h with _ h; injection h with h _; exact ⟨i, rfl, h⟩
  have hsl1 := cut_to (P := Tryd.prog) 68 96 .i64 Tryd.underlying68 hi0 (some ⟨tb, 0, none⟩) (k + 1) tc (k : Int) (by omega) (by omega) hkc
  rw [Int.toNat_natCast] at hsl1
  have HSL := Aside0.mk hsl1
  clear hrs3 hrep3 hsn3 hct3 hts3 hmi hne hl hs3 hup3 hsp3 hupe hspe hts htl1 htl2 hf0 hk htk hRl hgk htk2 hkc hi0 hz1 hsl1 x3 yk
  go_upto_region 17 with fail
  clear xk
  refine start_ (n := 10) (S := (fun w' => w'.cell? ⟨gr, 3, none⟩ = some (.slice (some ⟨tb, 0, none⟩) (k + 1) tc) ∧ w'.cell? ⟨tb, k * 2, none⟩ = some (.int .i64 (sp0 : Int)))) (ds := [9]) #[false, false, false, false, false, false, false, false, false, false] (by kernel_rfl) rfl rfl HC17.out (fun hHeld => ?_); refine with_tabW R40d_tab R40d_bits (fun HT_ HW_ => ?_)
  have HBd := Aside0.mk (show Below w3.heap.size w3 w3.drew from Drawn0.below ⟨⟨1, rfl⟩⟩)
  generalize w3.drew = w4 at HBd hHeld ⊢
  refine pure_ (i := 0) (N := some 113) (v := ?_) (a' := ?_) #[true, false, false, false, false, false, false, false, false, false] rfl rfl (any_of HT_.out (by kernel_rfl)) (fun _ _ _ h => h) (Or.inl ⟨by rfl, ?_⟩) ?_ ?_
  rotate_left
  · intro w'
    go_simp
    with_reducible rfl
  rotate_left
  · simp only [Act.put, List.setIfInBounds_toArray, List.set_cons_zero, List.set_cons_succ, i64_w, i32_w]
    rfl
  refine pure_ (i := 1) (N := some 114) (v := ?_) (a' := ?_) #[true, true, false, false, false, false, false, false, false, false] rfl rfl (any_of HT_.out (by kernel_rfl)) (fun _ _ _ h => h) (Or.inl ⟨by rfl, ?_⟩) ?_ ?_
  rotate_left
  · intro w'
    go_simp
    with_reducible rfl
  rotate_left
  · simp only [Act.put, List.setIfInBounds_toArray, List.set_cons_zero, List.set_cons_succ, i64_w, i32_w]
    rfl
  refine pure_ (i := 2) (N := some 115) (v := ?_) (a' := ?_) #[true, true, true, false, false, false, false, false, false, false] rfl rfl (any_of HT_.out (by kernel_rfl)) (fun _ _ _ h => h) (Or.inl ⟨by rfl, ?_⟩) ?_ ?_
  rotate_left
  · intro w'
    go_simp
    with_reducible rfl
  rotate_left
  · simp only [Act.put, List.setIfInBounds_toArray, List.set_cons_zero, List.set_cons_succ, i64_w, i32_w]
    rfl
  refine pure_ (i := 4) (N := some 117) (v := ?_) (a' := ?_) #[true, true, true, false, true, false, false, false, false, false] rfl rfl (any_of HT_.out (by kernel_rfl)) (fun _ _ _ h => h) (Or.inl ⟨by rfl, ?_⟩) ?_ ?_
  rotate_left
  · intro w'
    go_simp
    with_reducible rfl
  rotate_left
  · simp only [Act.put, List.setIfInBounds_toArray, List.set_cons_zero, List.set_cons_succ, i64_w, i32_w]
    rfl
  refine take_ (i := 3) (N := some 116) (v := ?_) (a' := ?_) #[true, true, true, true, true, false, false, false, false, false] rfl rfl (take_ofW HT_.out HW_.out (by kernel_rfl)) (fun _ _ _ h => h) (Or.inl ⟨by rfl, ?_⟩) hHeld ?_ ?_
  rotate_left
  · rintro w' ⟨s0, s1⟩
    go_simp
    with_reducible rfl
  rotate_left
  · simp only [Act.put, List.setIfInBounds_toArray, List.set_cons_zero, List.set_cons_succ, i64_w, i32_w]
    rfl
  refine takeC_ (i := 5) (N := some 118) (v := .int .i64 (k : Int)) (a' := ?_) #[true, true, true, true, true, true, false, false, false, false] rfl rfl (take_ofW HT_.out HW_.out (by kernel_rfl)) (fun _ _ _ h => h) Tryd.func51 (by kernel_rfl) rfl #[.pointer (some ⟨gr, 0, none⟩)] (by rfl) rfl (by (try simp only [List.map_toArray, List.map_cons, List.map_nil]); first | done | rfl) hHeld (fun w' h => last_at w' gr (some ⟨tb, 0, none⟩) k tc h.1 HKL.out) ?_ ?_
  rotate_left
  · simp only [Act.put, List.setIfInBounds_toArray, List.set_cons_zero, List.set_cons_succ, i64_w, i32_w]
    rfl
  refine pure_ (i := 6) (N := some 119) (v := ?_) (a' := ?_) #[true, true, true, true, true, true, true, false, false, false] rfl rfl (any_of HT_.out (by kernel_rfl)) (fun _ _ _ h => h) (Or.inl ⟨by rfl, ?_⟩) ?_ ?_
  rotate_left
  · intro w'
    go_simp
    with_reducible rfl
  rotate_left
  · simp only [Act.put, List.setIfInBounds_toArray, List.set_cons_zero, List.set_cons_succ, i64_w, i32_w]
    rfl
  refine pure_ (i := 7) (N := some 120) (v := ?_) (a' := ?_) #[true, true, true, true, true, true, true, true, false, false] rfl rfl (any_of HT_.out (by kernel_rfl)) (fun _ _ _ h => h) (Or.inl ⟨by rfl, ?_⟩) ?_ ?_
  rotate_left
  · intro w'
    go_simp
    with_reducible rfl
  rotate_left
  · simp only [Act.put, List.setIfInBounds_toArray, List.set_cons_zero, List.set_cons_succ, i64_w, i32_w]
    rfl
  refine take_ (i := 8) (N := some 121) (v := ?_) (a' := ?_) #[true, true, true, true, true, true, true, true, true, false] rfl rfl (take_ofW HT_.out HW_.out (by kernel_rfl)) (fun _ _ _ h => h) (Or.inl ⟨by rfl, ?_⟩) hHeld ?_ ?_
  rotate_left
  · rintro w' ⟨s0, s1⟩
    go_simp
    with_reducible rfl
  rotate_left
  · simp only [Act.put, List.setIfInBounds_toArray, List.set_cons_zero, List.set_cons_succ, i64_w, i32_w]
    rfl
  refine pure_ (i := 9) (N := some 11) (v := ?_) (a' := ?_) #[true, true, true, true, true, true, true, true, true, true] rfl rfl (any_of HT_.out (by kernel_rfl)) (fun _ _ _ h => h) (Or.inl ⟨by rfl, ?_⟩) ?_ ?_
  rotate_left
  · intro w'
    go_simp
    with_reducible rfl
  rotate_left
  · simp only [Act.put, List.setIfInBounds_toArray, List.set_cons_zero, List.set_cons_succ, i64_w, i32_w]
    rfl
  refine done_ (done_of HT_.out (by kernel_rfl)) ?_
  clear HT_ HW_ hHeld

  have HRS4 := Aside0.mk (HRS3.out.below HBd.out)
  have HC18 := Aside0.mk (show w4.cell? ⟨gr, 3, none⟩ = some (.slice (some ⟨tb, 0, none⟩) (k + 1) tc) by rw [HRS4.out.cell.2.2.2.1, HTK.out]; rfl)
  go_upto_region 18 with fail
  have hsl1 := HSL.out
  refine start_ (n := 13) (S := (fun w' => w'.cell? ⟨gr, 3, none⟩ = some (.slice (some ⟨tb, 0, none⟩) (k + 1) tc))) (ds := [12]) #[false, false, false, false, false, false, false, false, false, false, false, false, false] (by kernel_rfl) rfl rfl HC18.out (fun hHeld => ?_); refine with_tabW R40e_tab R40e_bits (fun HT_ HW_ => ?_)
  have HBe := Aside0.mk (show Below w4.heap.size w4 w4.drew from Drawn0.below ⟨⟨1, rfl⟩⟩)
  generalize w4.drew = w5 at HBe hHeld ⊢
  have HRS5 := Aside0.mk (HRS4.out.below HBe.out)
  refine pure_ (i := 0) (N := some 122) (v := ?_) (a' := ?_) #[true, false, false, false, false, false, false, false, false, false, false, false, false] rfl rfl (any_of HT_.out (by kernel_rfl)) (fun _ _ _ h => h) (Or.inl ⟨by rfl, ?_⟩) ?_ ?_
  rotate_left
  · intro w'
    go_simp
    with_reducible rfl
  rotate_left
  · simp only [Act.put, List.setIfInBounds_toArray, List.set_cons_zero, List.set_cons_succ, i64_w, i32_w]
    rfl
  refine pure_ (i := 2) (N := some 124) (v := ?_) (a' := ?_) #[true, false, true, false, false, false, false, false, false, false, false, false, false] rfl rfl (any_of HT_.out (by kernel_rfl)) (fun _ _ _ h => h) (Or.inl ⟨by rfl, ?_⟩) ?_ ?_
  rotate_left
  · intro w'
    go_simp
    with_reducible rfl
  rotate_left
  · simp only [Act.put, List.setIfInBounds_toArray, List.set_cons_zero, List.set_cons_succ, i64_w, i32_w]
    rfl
  refine pure_ (i := 3) (N := some 125) (v := ?_) (a' := ?_) #[true, false, true, true, false, false, false, false, false, false, false, false, false] rfl rfl (any_of HT_.out (by kernel_rfl)) (fun _ _ _ h => h) (Or.inl ⟨by rfl, ?_⟩) ?_ ?_
  rotate_left
  · intro w'
    go_simp
    with_reducible rfl
  rotate_left
  · simp only [Act.put, List.setIfInBounds_toArray, List.set_cons_zero, List.set_cons_succ, i64_w, i32_w]
    rfl
  refine pure_ (i := 4) (N := some 126) (v := ?_) (a' := ?_) #[true, false, true, true, true, false, false, false, false, false, false, false, false] rfl rfl (any_of HT_.out (by kernel_rfl)) (fun _ _ _ h => h) (Or.inl ⟨by rfl, ?_⟩) ?_ ?_
  rotate_left
  · intro w'
    go_simp
    with_reducible rfl
  rotate_left
  · simp only [Act.put, List.setIfInBounds_toArray, List.set_cons_zero, List.set_cons_succ, i64_w, i32_w]
    rfl
  refine take_ (i := 5) (N := some 127) (v := ?_) (a' := ?_) #[true, false, true, true, true, true, false, false, false, false, false, false, false] rfl rfl (take_ofW HT_.out HW_.out (by kernel_rfl)) (fun _ _ _ h => h) (Or.inl ⟨by rfl, ?_⟩) hHeld ?_ ?_
  rotate_left
  · rintro w' s0
    go_simp
    with_reducible rfl
  rotate_left
  · simp only [Act.put, List.setIfInBounds_toArray, List.set_cons_zero, List.set_cons_succ, i64_w, i32_w]
    rfl
  refine pure_ (i := 6) (N := some 128) (v := ?_) (a' := ?_) #[true, false, true, true, true, true, true, false, false, false, false, false, false] rfl rfl (any_of HT_.out (by kernel_rfl)) (fun _ _ _ h => h) (Or.inl ⟨by rfl, ?_⟩) ?_ ?_
  rotate_left
  · intro w'
    go_simp
    with_reducible rfl
  rotate_left
  · simp only [Act.put, List.setIfInBounds_toArray, List.set_cons_zero, List.set_cons_succ, i64_w, i32_w]
    rfl
  refine takeC_ (i := 7) (N := some 129) (v := .int .i64 (k : Int)) (a' := ?_) #[true, false, true, true, true, true, true, true, false, false, false, false, false] rfl rfl (take_ofW HT_.out HW_.out (by kernel_rfl)) (fun _ _ _ h => h) Tryd.func51 (by kernel_rfl) rfl #[.pointer (some ⟨gr, 0, none⟩)] (by rfl) rfl (by (try simp only [List.map_toArray, List.map_cons, List.map_nil]); first | done | rfl) hHeld (fun w' h => last_at w' gr (some ⟨tb, 0, none⟩) k tc h HKL.out) ?_ ?_
  rotate_left
  · simp only [Act.put, List.setIfInBounds_toArray, List.set_cons_zero, List.set_cons_succ, i64_w, i32_w]
    rfl
  refine pure_ (i := 8) (N := some 130) (v := ?_) (a' := ?_) #[true, false, true, true, true, true, true, true, true, false, false, false, false] rfl rfl (any_of HT_.out (by kernel_rfl)) (fun _ _ _ h => h) (Or.inl ⟨by rfl, ?_⟩) ?_ ?_
  rotate_left
  · intro w'
    go_simp
    with_reducible rfl
  rotate_left
  · simp only [Act.put, List.setIfInBounds_toArray, List.set_cons_zero, List.set_cons_succ, i64_w, i32_w]
    rfl
  refine one_ (i := 1) (N := some 123) #[true, true, true, true, true, true, true, true, true, false, false, false, false] rfl rfl (one_of HT_.out (by kernel_rfl)) (by decide) (fun K hK => ?_)
  refine value_ (w1 := ?_) (v := ?_) (by rfl) rfl ?_ ?_
  rotate_left 2
  · go_simp
    constructor
    · rfl
    · rfl
  refine hK.out _ _ ((Below.cell (p := ⟨gr, 3, none⟩) (below_alloc (Below.refl _ _) _) (blk_lt HRS5.out.bp)).trans hHeld) (fun hHeld => ?_)
  clear hK K
  refine norm_ (a' := ?_) ?_ ?_
  rotate_left
  · show Act.put _ (some 123) _ = _
    simp only [Act.put, List.setIfInBounds_toArray, List.set_cons_zero, List.set_cons_succ, i64_w, i32_w]
    rfl
  refine one_ (i := 9) (N := some 131) #[true, true, true, true, true, true, true, true, true, true, false, false, false] rfl rfl (one_of HT_.out (by kernel_rfl)) (by decide) (fun K hK => ?_)
  refine Kd.R_append_rows_step k96 (w0 := w0) w0.heap.size (by rfl) (.tmp 123) (.tmp 130) 68 96 (.agg #[.int .i64 0, .slice none 0 0]) 32 rfl Tryd.underlying68 infoTask rfl (by decide) (by omega) (.slice (some ⟨w5.heap.size, 0, none⟩) 0 0) [] tl _ _ _ (fun _ => True) (fun q => q < w5.heap.size) rfl rfl ?aO ?aR (fun _ _ h => h) (fun q h => ⟨trivial, fun e => by simp [Value.ownBlock] at e; omega⟩) ?aF ?aB ?aS ?aL ?_
  (case aO => exact Kd.R_lower (R_lit0 _ _ _) HRS5.out.hb.size)
  (case aR => exact (by have h := HRS5.out.rw.t; rw [show slv g3.tk = .slice (some ⟨tb, 0, none⟩) (k + 1) tc by rw [HTK.out]; rfl] at h; have h2 := reads_take (R_readsM z96 (Kd.R_alloc (Kd.R_bound h) (.cells #[] 96))) k (by omega); rw [HQ3.out.2.2.2.2.1, List.take_left' HQ3.out.2.2.2.2.2.2.2] at h2; exact ReadsRow.weaken h2 (fun x cs hm => k96.M_mono (fun q hq => hq.1.2.2.1) hm)))
  (case aF => exact fun _ _ => trivial)
  (case aB => exact below_alloc HRS5.out.hb _)
  (case aS => exact by have := HRS5.out.hb.size; simp; omega)
  (case aL => have := HKL.out; simp only [List.length_nil]; omega)
  intro v6 w6 ho hb hg hat
  obtain ⟨A6, c6, rfl, _, _⟩ := Kd.R_reads ho
  have HG := Aside0.mk (And.intro (show k96.R 96 w6 w0.heap.size (fun _ => True) (.slice A6 tl.length c6) tl from ho) (And.intro hb hg))
  clear ho hb hg hat
  have hon6 : Only 96 w5 w6 := (Only.below (below_alloc (Below.refl _ _) _)).trans (Only.grown HG.out.2.2 (fun q e => by injection e with e; subst e; exact ⟨_, heap_alloc_new _ _⟩))
  have hbp6 := hon6 gr _ _ HRS5.out.bp (by decide)
  refine hK.out _ _ ((blk_cell hbp6 3).trans (by show some (slv g3.tk) = _; rw [HTK.out]; rfl)) (fun hHeld => ?_)
  clear hK K
  refine norm_ (a' := ?_) ?_ ?_
  rotate_left
  · show Act.put _ (some 131) _ = _
    simp only [Act.put, List.setIfInBounds_toArray, List.set_cons_zero, List.set_cons_succ, i64_w, i32_w]
    rfl
  rw [List.nil_append]
  refine pure_ (i := 10) (N := some 132) (v := ?_) (a' := ?_) #[true, true, true, true, true, true, true, true, true, true, true, false, false] rfl rfl (any_of HT_.out (by kernel_rfl)) (fun _ _ _ h => h) (Or.inl ⟨by rfl, ?_⟩) ?_ ?_
  rotate_left
  · intro w'
    go_simp
    with_reducible rfl
  rotate_left
  · simp only [Act.put, List.setIfInBounds_toArray, List.set_cons_zero, List.set_cons_succ, i64_w, i32_w]
    rfl
  refine pure_ (i := 11) (N := some 133) (v := ?_) (a' := ?_) #[true, true, true, true, true, true, true, true, true, true, true, true, false] rfl rfl (any_of HT_.out (by kernel_rfl)) (fun _ _ _ h => h) (Or.inl ⟨by rfl, ?_⟩) ?_ ?_
  rotate_left
  · intro w'
    go_simp
    with_reducible rfl
  rotate_left
  · simp only [Act.put, List.setIfInBounds_toArray, List.set_cons_zero, List.set_cons_succ, i64_w, i32_w]
    rfl
  have hfz := blk_frozen hbp6 3
  have hfx : w6.cell? ⟨gr, 3, none⟩ = some (.slice (some ⟨tb, 0, none⟩) (k + 1) tc) := (blk_cell hbp6 3).trans (by show some (slv g3.tk) = _; rw [HTK.out]; rfl)
  refine last_ (i := 12) (N := none) #[true, true, true, true, true, true, true, true, true, true, true, true, true] rfl rfl (one_of HT_.out (by kernel_rfl)) (by decide) (fun K hK => ?_)
  refine skip_ (w1 := ?_) (by rfl) rfl ?_ ?_
  rotate_left
  · go_simp
    rfl
  refine hK.out _ _ ?_
  clear hK K
  refine done_ (done_of HT_.out (by kernel_rfl)) ?_
  clear HT_ HW_ hHeld

  clear hsl1
  have hv := HRS5.out.put (T := 96) (by decide) hon6 HG.out.2.1 3 (.slice A6 tl.length c6) { g3 with tk := (A6, tl.length, c6), ts := tl } rfl (HRS5.out.rw.tasks (t1 := (A6, tl.length, c6)) hon6 HG.out.1) ⟨rfl, rfl⟩
  rw [HQ3.out.2.2.2.2.2.2.2] at hv ⊢
  have HV := Aside0.mk hv
  generalize w6.setCell ⟨gr, 3, none⟩ (.slice A6 k c6) = w7 at HV ⊢
  clear hv hfz hfx hon6 hbp6 HG
  obtain ⟨g7, hg7⟩ : ∃ g7 : Gr, g7 = { g3 with tk := (A6, k, c6), ts := tl } := ⟨_, rfl⟩
  rw [← hg7] at HV
  have HR7 := Aside0.mk (show RepR F op un ps { s3.leave with spawns := s3.spawns.tail } g7 ∧ g7.sn = ({ s3.leave with spawns := s3.spawns.tail } : St (List Int)).count ∧ g7.ts.map (fun t : S96 => t.f0) = (-1) :: ints ({ s3.leave with spawns := s3.spawns.tail } : St (List Int)).spawns.reverse from by
    obtain ⟨q1, q2, q3, q4, q5, q6, q7, q8⟩ := HQ3.out
    subst hg7
    refine ⟨⟨HRep3.out.op, HRep3.out.un, HRep3.out.pl, HRep3.out.vs, HRep3.out.ls, ?_, HRep3.out.ps, HRep3.out.nx, HRep3.out.ms⟩, ?_, ?_⟩
    · show tl.map (fun t : S96 => t.f1) = s3.up.tail.reverse.map ints ++ [ints (s3.up.headD [])]
      rw [q7, q3]
      simp
    · show g3.sn = s3.count
      rw [q1, HSp.out.1, q2]
    · show tl.map (fun t : S96 => t.f0) = (-1) :: ints (s3.spawns.tail).reverse
      rw [q6, q4]
      rfl)
  have hgt : g7.ts = tl := by rw [hg7]
  have hgtk : g7.tk = (A6, k, c6) := by rw [hg7]
  have HG7 := Aside0.mk (And.intro hgt hgtk)
  clear hg7 hgt hgtk
  have hsc7 : Kd.C Kd.bool w7 sA st.length st := Kd.C_below HS.out HV.out.hb
  by_cases hst : st.getD sp0 false = true
  · have hlt : sp0 < st.length := by
      rcases Nat.lt_or_ge sp0 st.length with h | h
      · exact h
      · rw [List.getD_eq_getElem?_getD, List.getElem?_eq_none h] at hst
        cases hst
    obtain ⟨ad, rfl, hx⟩ := (Kd.reads_of_C (d := false) hsc7).at_ (sp0 : Int) (by omega) (by omega)
    rw [Int.toNat_natCast, show rdOf false st (sp0 : Int) = true by unfold rdOf; rw [Int.toNat_natCast]; exact hst] at hx
    have e1 : decide (sp0 < st.length) = true := decide_eq_true hlt
    have e2 : decide ((sp0 : Int) < (st.length : Int)) = true := decide_eq_true (by omega)
    have hlt2 : (sp0 : Int) < (st.length : Int) := by omega
    clear hsc7
    go_wp2_with fail
    refine (made_calls HV.out (by rw [HR7.out.1.views_len]; show s3.views.length ≤ _; have := HB3.out.views; have := HN.out; omega)).mono ?_
    rintro e w8 ⟨rfl, vo8, hrs8⟩
    clear hx e1 e2 hlt2 hlt
    obtain ⟨nn, hnn⟩ : ∃ nn, g7.vs.length = nn := ⟨_, rfl⟩
    rw [hnn]
    have HNN := Aside0.mk hnn
    obtain ⟨g8, hg8⟩ : ∃ g8 : Gr, g8 = { g7 with vo := vo8, vs := g7.vs ++ [⟨[], g7.un⟩] } := ⟨_, rfl⟩
    rw [← hg8] at hrs8
    have HR8 := Aside0.mk (show RepR F op un ps { ({ s3.leave with spawns := s3.spawns.tail } : St (List Int)) with views := s3.views ++ [[]] } g8 ∧ g8.sn = s3.count ∧ g8.ts.map (fun t : S96 => t.f0) = (-1) :: ints s3.spawns.tail.reverse from by
      subst hg8
      refine ⟨⟨HR7.out.1.op, HR7.out.1.un, HR7.out.1.pl, ?_, HR7.out.1.ls, HR7.out.1.ts, HR7.out.1.ps, HR7.out.1.nx, HR7.out.1.ms⟩, HR7.out.2.1, HR7.out.2.2⟩
      show g7.vs ++ [⟨[], g7.un⟩] = (s3.views ++ [[]]).map (vS F)
      rw [List.map_append, HR7.out.1.vs, HR7.out.1.un, ← HF0.out]
      rfl)
    have hgt8 : g8.ts = tl := by rw [hg8]; exact HG7.out.1
    have HNV := Aside0.mk (show nn = s3.views.length by rw [← hnn, HR7.out.1.views_len]; rfl)
    clear hg8 hnn
    -- the last task now
    obtain ⟨k2, hk2⟩ : ∃ k2, k = k2 + 1 := by
      have h1 := HQ3.out.2.2.2.2.2.2.1
      have h2 := congrArg List.length h1
      rw [List.length_map, HQ3.out.2.2.2.2.2.2.2, HQ3.out.2.2.1] at h2
      exact ⟨up.length, by simpa using h2⟩
    obtain ⟨tl2, hlast8, htl8⟩ : ∃ tl2, g8.ts = tl2 ++ [⟨((-1) :: ints s3.spawns.tail.reverse).getLastD 0, ints r⟩] ∧ tl2.length = k2 := by
      have hne : g8.ts ≠ [] := fun e => by rw [hgt8] at e; have := HQ3.out.2.2.2.2.2.2.2; rw [e] at this; simp at this; omega
      have e0 := HR8.out.1.ts
      rw [show ({ ({ s3.leave with spawns := s3.spawns.tail } : St (List Int)) with views := s3.views ++ [[]] } : St (List Int)).cur = r from by show s3.up.headD [] = r; rw [HQ3.out.2.2.1]; rfl] at e0
      have e1 := HR8.out.2.2
      rw [← List.dropLast_concat_getLast hne, List.map_append] at e0 e1
      have e2 : (g8.ts.getLast hne).f1 = ints r := by simpa using (List.append_inj' e0 rfl).2
      have e3 : (g8.ts.getLast hne).f0 = ((-1) :: ints s3.spawns.tail.reverse).getLastD 0 := by rw [← e1]; simp
      refine ⟨g8.ts.dropLast, ?_, by rw [List.length_dropLast, hgt8, HQ3.out.2.2.2.2.2.2.2]; omega⟩
      rw [← e2, ← e3]
      exact (List.dropLast_concat_getLast hne).symm
    obtain ⟨sp9, hsp9⟩ : ∃ q, ((-1) :: ints s3.spawns.tail.reverse).getLastD 0 = q := ⟨_, rfl⟩
    rw [hsp9] at hlast8
    obtain ⟨tb8, tc8, A8, c8, htk8, yk8, y8, yf8, hR8⟩ := hrs8.task_R k2 (by rw [hlast8, List.length_append, htl8]; simp)
    have hg8k : g8.ts.getD k2 z96 = ⟨sp9, ints r⟩ := by rw [hlast8, ← htl8]; simp
    rw [hg8k] at yk8 y8 hR8
    replace yk8 : w8.cell? ⟨tb8, k2 * 2, none⟩ = some (.int .i64 sp9) := yk8
    replace y8 : w8.cell? ⟨tb8, k2 * 2 + 1, none⟩ = some (.slice A8 (ints r).length c8) := y8
    have htk8' : g8.tk = (some ⟨tb8, 0, none⟩, k2 + 1, tc8) := by rw [htk8, hlast8, List.length_append, htl8]; rfl
    have x8 : w8.cell? ⟨gr, 3, none⟩ = some (.slice (some ⟨tb8, 0, none⟩) (k2 + 1) tc8) := by rw [hrs8.cell.2.2.2.1, htk8']; rfl
    obtain ⟨rn, hrn⟩ : ∃ rn, (ints r).length = rn := ⟨_, rfl⟩
    rw [hrn] at y8 hR8
    have HRN := Aside0.mk hrn
    have HRS8 := Aside0.mk hrs8
    have HC21 := Aside0.mk (And.intro x8 y8)
    have HTK8 := Aside0.mk htk8'
    have HLast8 := Aside0.mk (And.intro hlast8 htl8)
    have HRB := Aside0.mk (show (ints r).length ≤ 100001 from by rw [ints_length]; exact HRlen.out)
    have HCr8 := Aside0.mk (Kd.R_reads' hR8).2.2
    have HK2 := Aside0.mk hk2
    have l8 : ((k2 : Int) < (k2 : Int) + 1) = True := eq_true (by omega)
    have hk2b : (k2 : Int) ≤ 100000 := by have := HKL.out; omega
    have HYK := Aside0.mk (And.intro yk8 y8)
    have HGB8 := Aside0.mk (show w0.heap.size ≤ tb8 ∧ tb8 < w8.heap.size from by
      obtain ⟨b', e1, h1, h2, _⟩ := R_head hrs8.rw.t (by rw [hlast8]; simp)
      rw [htk8'] at e1
      injection e1 with e1
      injection e1 with e1
      subst e1
      exact ⟨h1, h2⟩)
    have HGE8 := Aside0.mk HGB8.out.1
    have HBk8 := Aside0.mk HGB8.out.2
    clear hrs8 hgt8 hlast8 htl8 hsp9 htk8 hg8k hR8 yk8 y8 x8 htk8' hk2 yf8 hrn
    go_upto_region 21 with fail
    refine start_ (n := 23) (S := (fun w' => w'.cell? ⟨gr, 3, none⟩ = some (.slice (some ⟨tb8, 0, none⟩) (k2 + 1) tc8) ∧ w'.cell? ⟨tb8, k2 * 2 + 1, none⟩ = some (.slice A8 rn c8))) (ds := [22]) #[false, false, false, false, false, false, false, false, false, false, false, false, false, false, false, false, false, false, false, false, false, false, false] (by kernel_rfl) rfl rfl HC21.out (fun hHeld => ?_); refine with_tabW R40f_tab R40f_bits (fun HT_ HW_ => ?_)
    have HBf := Aside0.mk (show Below w8.heap.size w8 w8.drew from Drawn0.below ⟨⟨1, rfl⟩⟩)
    generalize w8.drew = w9 at HBf hHeld ⊢
    have HRS9 := Aside0.mk (HRS8.out.below HBf.out)
    refine pure_ (i := 0) (N := some 146) (v := ?_) (a' := ?_) #[true, false, false, false, false, false, false, false, false, false, false, false, false, false, false, false, false, false, false, false, false, false, false] rfl rfl (any_of HT_.out (by kernel_rfl)) (fun _ _ _ h => h) (Or.inl ⟨by rfl, ?_⟩) ?_ ?_
    rotate_left
    · intro w'
      go_simp
      with_reducible rfl
    rotate_left
    · simp only [Act.put, List.setIfInBounds_toArray, List.set_cons_zero, List.set_cons_succ, i64_w, i32_w]
      rfl
    refine pure_ (i := 1) (N := some 147) (v := ?_) (a' := ?_) #[true, true, false, false, false, false, false, false, false, false, false, false, false, false, false, false, false, false, false, false, false, false, false] rfl rfl (any_of HT_.out (by kernel_rfl)) (fun _ _ _ h => h) (Or.inl ⟨by rfl, ?_⟩) ?_ ?_
    rotate_left
    · intro w'
      go_simp
      with_reducible rfl
    rotate_left
    · simp only [Act.put, List.setIfInBounds_toArray, List.set_cons_zero, List.set_cons_succ, i64_w, i32_w]
      rfl
    refine pure_ (i := 2) (N := some 148) (v := ?_) (a' := ?_) #[true, true, true, false, false, false, false, false, false, false, false, false, false, false, false, false, false, false, false, false, false, false, false] rfl rfl (any_of HT_.out (by kernel_rfl)) (fun _ _ _ h => h) (Or.inl ⟨by rfl, ?_⟩) ?_ ?_
    rotate_left
    · intro w'
      go_simp
      with_reducible rfl
    rotate_left
    · simp only [Act.put, List.setIfInBounds_toArray, List.set_cons_zero, List.set_cons_succ, i64_w, i32_w]
      rfl
    refine pure_ (i := 4) (N := some 150) (v := ?_) (a' := ?_) #[true, true, true, false, true, false, false, false, false, false, false, false, false, false, false, false, false, false, false, false, false, false, false] rfl rfl (any_of HT_.out (by kernel_rfl)) (fun _ _ _ h => h) (Or.inl ⟨by rfl, ?_⟩) ?_ ?_
    rotate_left
    · intro w'
      go_simp
      with_reducible rfl
    rotate_left
    · simp only [Act.put, List.setIfInBounds_toArray, List.set_cons_zero, List.set_cons_succ, i64_w, i32_w]
      rfl
    refine pure_ (i := 7) (N := some 153) (v := ?_) (a' := ?_) #[true, true, true, false, true, false, false, true, false, false, false, false, false, false, false, false, false, false, false, false, false, false, false] rfl rfl (any_of HT_.out (by kernel_rfl)) (fun _ _ _ h => h) (Or.inl ⟨by rfl, ?_⟩) ?_ ?_
    rotate_left
    · intro w'
      go_simp
      with_reducible rfl
    rotate_left
    · simp only [Act.put, List.setIfInBounds_toArray, List.set_cons_zero, List.set_cons_succ, i64_w, i32_w]
      rfl
    refine pure_ (i := 8) (N := some 154) (v := ?_) (a' := ?_) #[true, true, true, false, true, false, false, true, true, false, false, false, false, false, false, false, false, false, false, false, false, false, false] rfl rfl (any_of HT_.out (by kernel_rfl)) (fun _ _ _ h => h) (Or.inl ⟨by rfl, ?_⟩) ?_ ?_
    rotate_left
    · intro w'
      go_simp
      with_reducible rfl
    rotate_left
    · simp only [Act.put, List.setIfInBounds_toArray, List.set_cons_zero, List.set_cons_succ, i64_w, i32_w]
      rfl
    refine pure_ (i := 9) (N := some 155) (v := ?_) (a' := ?_) #[true, true, true, false, true, false, false, true, true, true, false, false, false, false, false, false, false, false, false, false, false, false, false] rfl rfl (any_of HT_.out (by kernel_rfl)) (fun _ _ _ h => h) (Or.inl ⟨by rfl, ?_⟩) ?_ ?_
    rotate_left
    · intro w'
      go_simp
      with_reducible rfl
    rotate_left
    · simp only [Act.put, List.setIfInBounds_toArray, List.set_cons_zero, List.set_cons_succ, i64_w, i32_w]
      rfl
    refine pure_ (i := 11) (N := some 157) (v := ?_) (a' := ?_) #[true, true, true, false, true, false, false, true, true, true, false, true, false, false, false, false, false, false, false, false, false, false, false] rfl rfl (any_of HT_.out (by kernel_rfl)) (fun _ _ _ h => h) (Or.inl ⟨by rfl, ?_⟩) ?_ ?_
    rotate_left
    · intro w'
      go_simp
      with_reducible rfl
    rotate_left
    · simp only [Act.put, List.setIfInBounds_toArray, List.set_cons_zero, List.set_cons_succ, i64_w, i32_w]
      rfl
    refine pure_ (i := 17) (N := some 163) (v := ?_) (a' := ?_) #[true, true, true, false, true, false, false, true, true, true, false, true, false, false, false, false, false, true, false, false, false, false, false] rfl rfl (any_of HT_.out (by kernel_rfl)) (fun _ _ _ h => h) (Or.inl ⟨by rfl, ?_⟩) ?_ ?_
    rotate_left
    · intro w'
      go_simp
      with_reducible rfl
    rotate_left
    · simp only [Act.put, List.setIfInBounds_toArray, List.set_cons_zero, List.set_cons_succ, i64_w, i32_w]
      rfl
    refine take_ (i := 3) (N := some 149) (v := ?_) (a' := ?_) #[true, true, true, true, true, false, false, true, true, true, false, true, false, false, false, false, false, true, false, false, false, false, false] rfl rfl (take_ofW HT_.out HW_.out (by kernel_rfl)) (fun _ _ _ h => h) (Or.inl ⟨by rfl, ?_⟩) hHeld ?_ ?_
    rotate_left
    · rintro w' ⟨s0, s1⟩
      go_simp
      with_reducible rfl
    rotate_left
    · simp only [Act.put, List.setIfInBounds_toArray, List.set_cons_zero, List.set_cons_succ, i64_w, i32_w]
      rfl
    refine take_ (i := 10) (N := some 156) (v := ?_) (a' := ?_) #[true, true, true, true, true, false, false, true, true, true, true, true, false, false, false, false, false, true, false, false, false, false, false] rfl rfl (take_ofW HT_.out HW_.out (by kernel_rfl)) (fun _ _ _ h => h) (Or.inl ⟨by rfl, ?_⟩) hHeld ?_ ?_
    rotate_left
    · rintro w' ⟨s0, s1⟩
      go_simp
      with_reducible rfl
    rotate_left
    · simp only [Act.put, List.setIfInBounds_toArray, List.set_cons_zero, List.set_cons_succ, i64_w, i32_w]
      rfl
    refine takeC_ (i := 5) (N := some 151) (v := .int .i64 (k2 : Int)) (a' := ?_) #[true, true, true, true, true, true, false, true, true, true, true, true, false, false, false, false, false, true, false, false, false, false, false] rfl rfl (take_ofW HT_.out HW_.out (by kernel_rfl)) (fun _ _ _ h => h) Tryd.func51 (by kernel_rfl) rfl #[.pointer (some ⟨gr, 0, none⟩)] (by rfl) rfl (by (try simp only [List.map_toArray, List.map_cons, List.map_nil]); first | done | rfl) hHeld (fun w' h => last_at w' gr (some ⟨tb8, 0, none⟩) k2 tc8 h.1 (by have := HKL.out; omega)) ?_ ?_
    rotate_left
    · simp only [Act.put, List.setIfInBounds_toArray, List.set_cons_zero, List.set_cons_succ, i64_w, i32_w]
      rfl
    refine takeC_ (i := 12) (N := some 158) (v := .int .i64 (k2 : Int)) (a' := ?_) #[true, true, true, true, true, true, false, true, true, true, true, true, true, false, false, false, false, true, false, false, false, false, false] rfl rfl (take_ofW HT_.out HW_.out (by kernel_rfl)) (fun _ _ _ h => h) Tryd.func51 (by kernel_rfl) rfl #[.pointer (some ⟨gr, 0, none⟩)] (by rfl) rfl (by (try simp only [List.map_toArray, List.map_cons, List.map_nil]); first | done | rfl) hHeld (fun w' h => last_at w' gr (some ⟨tb8, 0, none⟩) k2 tc8 h.1 (by have := HKL.out; omega)) ?_ ?_
    rotate_left
    · simp only [Act.put, List.setIfInBounds_toArray, List.set_cons_zero, List.set_cons_succ, i64_w, i32_w]
      rfl
    refine pure_ (i := 13) (N := some 159) (v := ?_) (a' := ?_) #[true, true, true, true, true, true, false, true, true, true, true, true, true, true, false, false, false, true, false, false, false, false, false] rfl rfl (any_of HT_.out (by kernel_rfl)) (fun _ _ _ h => h) (Or.inl ⟨by rfl, ?_⟩) ?_ ?_
    rotate_left
    · intro w'
      go_simp
      with_reducible rfl
    rotate_left
    · simp only [Act.put, List.setIfInBounds_toArray, List.set_cons_zero, List.set_cons_succ, i64_w, i32_w]
      rfl
    refine pure_ (i := 14) (N := some 160) (v := ?_) (a' := ?_) #[true, true, true, true, true, true, false, true, true, true, true, true, true, true, true, false, false, true, false, false, false, false, false] rfl rfl (any_of HT_.out (by kernel_rfl)) (fun _ _ _ h => h) (Or.inl ⟨by rfl, ?_⟩) ?_ ?_
    rotate_left
    · intro w'
      go_simp
      with_reducible rfl
    rotate_left
    · simp only [Act.put, List.setIfInBounds_toArray, List.set_cons_zero, List.set_cons_succ, i64_w, i32_w]
      rfl
    refine take_ (i := 15) (N := some 161) (v := ?_) (a' := ?_) #[true, true, true, true, true, true, false, true, true, true, true, true, true, true, true, true, false, true, false, false, false, false, false] rfl rfl (take_ofW HT_.out HW_.out (by kernel_rfl)) (fun _ _ _ h => h) (Or.inl ⟨by rfl, ?_⟩) hHeld ?_ ?_
    rotate_left
    · rintro w' ⟨s0, s1⟩
      go_simp
      with_reducible rfl
    rotate_left
    · simp only [Act.put, List.setIfInBounds_toArray, List.set_cons_zero, List.set_cons_succ, i64_w, i32_w]
      rfl
    have HS9 := Aside0.mk hHeld
    have HBk9 := Aside0.mk (show gr < w9.heap.size ∧ tb8 < w9.heap.size from by
      obtain ⟨cells, hc⟩ := typed_of HRS9.out.rw.t tb8 (by rw [HTK8.out]; rfl)
      exact ⟨blk_lt HRS9.out.bp, blk_lt hc⟩)
    have HF9 := Aside0.mk (show w9.frozen? ⟨tb8, k2 * 2 + 1, none⟩ = false from by
      obtain ⟨cells, hc⟩ := typed_of HRS9.out.rw.t tb8 (by rw [HTK8.out]; rfl)
      exact blk_frozen hc _)
    have HCr := Aside0.mk (Kd.C_below HCr8.out HBf.out)
    rw [HRN.out] at HCr
    refine join_ (σ := Nat × Option Addr × Nat × Nat) 4 #[true, true, true, true, true, true, true, true, true, true, true, true, true, true, true, true, true, true, true, false, false, false, false] (fun s_ => [(152, .slice (some ⟨s_.1, 0, none⟩) 0 0), (162, .slice s_.2.1 rn s_.2.2.1), (164, .slice (some ⟨s_.2.2.2, 0, none⟩) 1 1)]) (fun s_ w' => Below w9.heap.size w9 w' ∧ (Kd.int .i64).R 3 w' w9.heap.size (fun _ => True) (.slice s_.2.1 rn s_.2.2.1) (ints r) ∧ w'.heap[s_.2.2.2]? = some (.cells #[.int .i64 (nn : Int)] 3 (0, 0))) ?_ ?_
    · intro s_ w_j hF_
      rcases s_ with ⟨l0_, A_, c_, l1_⟩
      obtain ⟨hb_, hR_, hC_⟩ := hF_
      have HBj := Aside0.mk hb_
      have HRj := Aside0.mk hR_
      have HCj := Aside0.mk hC_
      clear hb_ hR_ hC_
      have hHeld : w_j.cell? ⟨gr, 3, none⟩ = some (.slice (some ⟨tb8, 0, none⟩) (k2 + 1) tc8) ∧ w_j.cell? ⟨tb8, k2 * 2 + 1, none⟩ = some (.slice A8 rn c8) := ⟨(Below.cell (p := ⟨gr, 3, none⟩) HBj.out HBk9.out.1).trans HS9.out.1, (Below.cell (p := ⟨tb8, k2 * 2 + 1, none⟩) HBj.out HBk9.out.2).trans HS9.out.2⟩
      refine norm_ (a' := ?_) ?_ ?_
      rotate_left
      · simp only [putAll, Act.put, List.setIfInBounds_toArray, List.set_cons_zero, List.set_cons_succ]
        rfl
      refine one_ (i := 19) (N := some 165) #[true, true, true, true, true, true, true, true, true, true, true, true, true, true, true, true, true, true, true, true, false, false, false] rfl rfl (one_of HT_.out (by kernel_rfl)) (by decide) (fun K hK => ?_)
      refine Kd.R_append_rows_step (Kd.int .i64) (w0 := w9) w9.heap.size (by rfl) (.tmp 162) (.tmp 164) 24 3 (.int .i64 0) 8 rfl Tryd.underlying24 infoInt rfl (by decide) (by omega) (.slice A_ rn c_) (ints r) [(nn : Int)] _ _ _ (fun _ => True) (fun _ => False) rfl rfl ?aO ?aR (fun _ _ h => h) (fun _ h => h.elim) ?aF ?aB ?aS ?aL ?_
      (case aO => exact HRj.out)
      (case aR => exact C_lit1 HCj.out)
      (case aF => exact fun _ _ => trivial)
      (case aB => exact HBj.out)
      (case aS => exact HBj.out.size)
      (case aL => have := HRB.out; omega)
      intro v_ w10 ho hb hg hat
      obtain ⟨A10, c10, rfl, _, _⟩ := Kd.R_reads ho
      have HA10 := Aside0.mk ho
      have HB10 := Aside0.mk hb
      clear ho hb hg hat
      rw [show (ints r ++ [(nn : Int)]).length = rn + 1 by rw [List.length_append, HRN.out]; rfl]
      refine hK.out _ _ ⟨(Below.cell (p := ⟨gr, 3, none⟩) HB10.out HBk9.out.1).trans HS9.out.1, (Below.cell (p := ⟨tb8, k2 * 2 + 1, none⟩) HB10.out HBk9.out.2).trans HS9.out.2⟩ (fun hHeld => ?_)
      clear hK K
      refine norm_ (a' := ?_) ?_ ?_
      rotate_left
      · show Act.put _ (some 165) _ = _
        simp only [Act.put, List.setIfInBounds_toArray, List.set_cons_zero, List.set_cons_succ, i64_w, i32_w]
        rfl
      refine pure_ (i := 20) (N := some 166) (v := ?_) (a' := ?_) #[true, true, true, true, true, true, true, true, true, true, true, true, true, true, true, true, true, true, true, true, true, false, false] rfl rfl (any_of HT_.out (by kernel_rfl)) (fun _ _ _ h => h) (Or.inl ⟨by rfl, ?_⟩) ?_ ?_
      rotate_left
      · intro w'
        go_simp
        with_reducible rfl
      rotate_left
      · simp only [Act.put, List.setIfInBounds_toArray, List.set_cons_zero, List.set_cons_succ, i64_w, i32_w]
        rfl
      refine pure_ (i := 21) (N := some 167) (v := ?_) (a' := ?_) #[true, true, true, true, true, true, true, true, true, true, true, true, true, true, true, true, true, true, true, true, true, true, false] rfl rfl (any_of HT_.out (by kernel_rfl)) (fun _ _ _ h => h) (Or.inl ⟨by rfl, ?_⟩) ?_ ?_
      rotate_left
      · intro w'
        go_simp
        with_reducible rfl
      rotate_left
      · simp only [Act.put, List.setIfInBounds_toArray, List.set_cons_zero, List.set_cons_succ, i64_w, i32_w]
        rfl
      have hHeld' := hHeld
      have hfz : w10.frozen? ⟨tb8, k2 * 2 + 1, none⟩ = false := (World.frozen?_of_block (HB10.out.block tb8 HBk9.out.2)).trans HF9.out
      have hfx := hHeld.2
      refine last_ (i := 22) (N := none) #[true, true, true, true, true, true, true, true, true, true, true, true, true, true, true, true, true, true, true, true, true, true, true] rfl rfl (one_of HT_.out (by kernel_rfl)) (by decide) (fun K hK => ?_)
      refine skip_ (w1 := ?_) (by rfl) rfl ?_ ?_
      rotate_left
      · go_simp
        rfl
      refine hK.out _ _ ?_
      clear hK K
      refine done_ (done_of HT_.out (by kernel_rfl)) ?_
      clear HT_ HW_ hHeld
      have hA10 := HA10.out
      rw [show (ints r ++ [(nn : Int)]).length = rn + 1 by rw [List.length_append, HRN.out]; rfl] at hA10
      have HRS10 := Aside0.mk (HRS9.out.below HB10.out)
      obtain ⟨yk9, y9⟩ := HYK.out
      have yk10 : w10.cell? ⟨tb8, k2 * 2, none⟩ = some (.int .i64 sp9) := (HB10.out.cell (p := ⟨tb8, k2 * 2, none⟩) HBk9.out.2).trans (((HBf.out.cell (p := ⟨tb8, k2 * 2, none⟩) HBk8.out)).trans yk9)
      have htR := HRS10.out.rw.t
      rw [HTK8.out] at htR
      replace htR : k96.R 96 w10 w0.heap.size (fun _ => True) (.slice (some ⟨tb8, 0, none⟩) (k2 + 1) tc8) g8.ts := htR
      have hseg := Kd.R_seg htR (k2 : Int) (by omega) (by omega) (c := [.int .i64 sp9, .slice A8 rn c8]) (seg := [.slice A10 (rn + 1) c10]) (j := 1) (okp := fun q => q ≠ tb8) rfl (two_cells yk10 hHeld'.2) (show 2 ≤ 2 from Nat.le_refl 2) (x' := ⟨sp9, ints r ++ [(nn : Int)]⟩)
        (k96_mkM w10 w0.heap.size (fun q => q ≠ tb8) ⟨sp9, ints r ++ [(nn : Int)]⟩ (Kd.R_mono (Kd.R_lower (Kd.R_bound hA10) HRS9.out.hb.size) (fun q hq e => by have := hq.2.1; have := HBk9.out.2; omega))) (fun q hq => ⟨trivial, hq⟩)
      rw [Int.toNat_natCast] at hseg
      replace hseg : k96.R 96 (w10.setCell ⟨tb8, k2 * 2 + 1, none⟩ (.slice A10 (rn + 1) c10)) w0.heap.size (fun _ => True) (.slice (some ⟨tb8, 0, none⟩) (k2 + 1) tc8) (g8.ts.set k2 ⟨sp9, ints r ++ [(nn : Int)]⟩) ∧ w10.grownBy (w10.setCell ⟨tb8, k2 * 2 + 1, none⟩ (.slice A10 (rn + 1) c10)) (some tb8) := hseg
      have hv11 := HRS10.out.task_put HTK8.out hseg.1 (HRS10.out.hb.setCell (p := ⟨tb8, k2 * 2 + 1, none⟩) HGE8.out _) hseg.2
      have hset : g8.ts.set k2 ⟨sp9, ints r ++ [(nn : Int)]⟩ = tl2 ++ [⟨sp9, ints (r ++ [s3.views.length])⟩] := by
        rw [HLast8.out.1, List.set_append_right _ _ (by rw [HLast8.out.2]; omega), HLast8.out.2, Nat.sub_self]
        rw [HNV.out]
        simp [ints]
      rw [hset] at hv11
      have HV11 := Aside0.mk hv11
      clear hv11 hset hseg htR yk9 y9 yk10 hA10 hfz hfx hHeld'
      go_wp2
      go_end0
      refine ⟨rfl, HI.out _ ⟨_, HV11.out, ⟨HR8.out.1.op, HR8.out.1.un, HR8.out.1.pl, ?_, ?_, ?_, ?_, HR8.out.1.nx, ?_⟩, ?_, ?_⟩⟩
      all_goals rw [show s3.back red st = St.made red { s3.leave with spawns := s3.spawns.tail } from by unfold St.back; rw [show s3.spawns.headD 0 = sp0 by rw [HQ3.out.2.2.2.1]; rfl, if_pos hst]]
      · exact HR8.out.1.vs
      · exact HR8.out.1.ls
      · have h1 := HR8.out.1.ts
        rw [HLast8.out.1, List.map_append] at h1
        have h2 := (List.append_inj' h1 rfl).1
        show (tl2 ++ [(⟨sp9, ints (r ++ [s3.views.length])⟩ : S96)]).map (fun t : S96 => t.f1) = s3.up.tail.reverse.map ints ++ [ints (s3.up.headD [] ++ [s3.views.length])]
        rw [List.map_append, h2]
        show List.map ints s3.up.tail.reverse ++ [ints (r ++ [s3.views.length])] = List.map ints s3.up.tail.reverse ++ [ints (s3.up.headD [] ++ [s3.views.length])]
        rw [HQ3.out.2.2.1]
        rfl
      · exact HR8.out.1.ps
      · exact HR8.out.1.ms
      · exact HR8.out.2.1
      · have h1 := HR8.out.2.2
        rw [HLast8.out.1, List.map_append] at h1
        show (tl2 ++ [(⟨sp9, ints (r ++ [s3.views.length])⟩ : S96)]).map (fun t : S96 => t.f0) = _
        rw [List.map_append]
        exact h1
    · intro hcont
      refine two_ (i := 6) (j := 18) (Ni := some 152) (Nj := some 164) #[true, true, true, true, true, true, true, true, true, true, true, true, true, true, true, true, false, true, false, false, false, false, false] #[true, true, true, true, true, true, false, true, true, true, true, true, true, true, true, true, false, true, true, false, false, false, false] rfl rfl rfl rfl (two_of HT_.out (by kernel_rfl)) (by decide) (by decide) (fun K hK => ?_) (fun K hK => ?_)
      · refine value_ (w1 := ?_) (v := ?_) (by rfl) rfl ?_ ?_
        rotate_left 2
        · go_simp
          constructor
          · rfl
          · rfl
        refine hK.out _ _ ⟨(Below.cell (p := ⟨gr, 3, none⟩) (below_alloc (Below.refl _ _) _) HBk9.out.1).trans HS9.out.1, (Below.cell (p := ⟨tb8, k2 * 2 + 1, none⟩) (below_alloc (Below.refl _ _) _) HBk9.out.2).trans HS9.out.2⟩ (fun hHeld => ?_)
        clear hK K
        refine norm_ (a' := ?_) ?_ ?_
        rotate_left
        · show Act.put _ (some 152) _ = _
          simp only [Act.put, List.setIfInBounds_toArray, List.set_cons_zero, List.set_cons_succ, i64_w, i32_w]
          rfl
        have HO_w_a := Aside0.mk (R_lit0 (Kd.int .i64) 3 w9)
        have HB_w_a := Aside0.mk (below_alloc (Below.refl w9.heap.size w9) (.cells #[] 3))
        have HN_a := Aside0.mk (show w9.heap.size < (w9.alloc (.cells #[] 3)).heap.size by simp)
        generalize w9.alloc (.cells #[] 3) = w_a at HO_w_a HB_w_a HN_a hHeld ⊢
        refine two_ (i := 16) (j := 18) (Ni := some 162) (Nj := some 164) #[true, true, true, true, true, true, true, true, true, true, true, true, true, true, true, true, true, true, false, false, false, false, false] #[true, true, true, true, true, true, true, true, true, true, true, true, true, true, true, true, false, true, true, false, false, false, false] rfl rfl rfl rfl (two_of HT_.out (by kernel_rfl)) (by decide) (by decide) (fun K hK => ?_) (fun K hK => ?_)
        · refine Kd.R_append_rows_step (Kd.int .i64) (w0 := w9) w9.heap.size (by rfl) (.tmp 152) (.tmp 161) 24 3 (.int .i64 0) 8 rfl Tryd.underlying24 infoInt rfl (by decide) (by omega) (.slice (some ⟨w9.heap.size, 0, none⟩) 0 0) [] (ints r) _ _ _ (fun _ => True) (fun _ => False) rfl rfl ?aO ?aR (fun _ _ h => h) (fun _ h => h.elim) ?aF ?aB ?aS ?aL ?_
          (case aO => exact HO_w_a.out)
          (case aR => exact Kd.C_below HCr.out HB_w_a.out)
          (case aF => exact fun _ _ => trivial)
          (case aB => exact HB_w_a.out)
          (case aS => exact HB_w_a.out.size)
          (case aL => have := HRB.out; have := HRN.out; simp only [List.length_nil]; omega)
          intro v_ w_b ho hb hg hat
          obtain ⟨A_, c_, rfl, _, _⟩ := Kd.R_reads ho
          replace ho : (Kd.int .i64).R 3 w_b w9.heap.size (fun _ => True) (.slice A_ (ints r).length c_) (ints r) := ho
          rw [HRN.out] at ho
          have HA_ := Aside0.mk ho
          have HB_b := Aside0.mk hb
          have HG_b := Aside0.mk hg
          clear ho hb hg hat
          rw [show ([] ++ ints r : List Int).length = rn from HRN.out]
          refine hK.out _ _ ⟨(Below.cell (p := ⟨gr, 3, none⟩) HB_b.out HBk9.out.1).trans HS9.out.1, (Below.cell (p := ⟨tb8, k2 * 2 + 1, none⟩) HB_b.out HBk9.out.2).trans HS9.out.2⟩ (fun hHeld => ?_)
          clear hK K
          refine norm_ (a' := ?_) ?_ ?_
          rotate_left
          · show Act.put _ (some 162) _ = _
            simp only [Act.put, List.setIfInBounds_toArray, List.set_cons_zero, List.set_cons_succ, i64_w, i32_w]
            rfl
          refine one_ (i := 18) (N := some 164) #[true, true, true, true, true, true, true, true, true, true, true, true, true, true, true, true, true, true, true, false, false, false, false] rfl rfl (one_of HT_.out (by kernel_rfl)) (by decide) (fun K hK => ?_)
          refine value_ (w1 := ?_) (v := ?_) (by rfl) rfl ?_ ?_
          rotate_left 2
          · go_simp
            constructor
            · rfl
            · rfl
          refine hK.out _ _ ⟨(Below.cell (p := ⟨gr, 3, none⟩) (below_alloc HB_b.out _) HBk9.out.1).trans HS9.out.1, (Below.cell (p := ⟨tb8, k2 * 2 + 1, none⟩) (below_alloc HB_b.out _) HBk9.out.2).trans HS9.out.2⟩ (fun hHeld => ?_)
          clear hK K
          exact hcont (w9.heap.size, A_, c_, w_b.heap.size) _ ⟨below_alloc HB_b.out _, Kd.R_alloc HA_.out _, heap_alloc_new _ _⟩
        · refine value_ (w1 := ?_) (v := ?_) (by rfl) rfl ?_ ?_
          rotate_left 2
          · go_simp
            constructor
            · rfl
            · rfl
          refine hK.out _ _ ⟨(Below.cell (p := ⟨gr, 3, none⟩) (below_alloc HB_w_a.out _) HBk9.out.1).trans HS9.out.1, (Below.cell (p := ⟨tb8, k2 * 2 + 1, none⟩) (below_alloc HB_w_a.out _) HBk9.out.2).trans HS9.out.2⟩ (fun hHeld => ?_)
          clear hK K
          refine norm_ (a' := ?_) ?_ ?_
          rotate_left
          · show Act.put _ (some 164) _ = _
            simp only [Act.put, List.setIfInBounds_toArray, List.set_cons_zero, List.set_cons_succ, i64_w, i32_w]
            rfl
          have HC_c := Aside0.mk (heap_alloc_new w_a (.cells #[.int .i64 (nn : Int)] 3))
          have HO_c := Aside0.mk (Kd.R_alloc HO_w_a.out (.cells #[.int .i64 (nn : Int)] 3))
          have HB_c := Aside0.mk (below_alloc HB_w_a.out (.cells #[.int .i64 (nn : Int)] 3))
          have HN_c := Aside0.mk (show w9.heap.size < w_a.heap.size from HN_a.out)
          generalize w_a.alloc (.cells #[.int .i64 (nn : Int)] 3) = w_c at HC_c HO_c HB_c hHeld ⊢
          refine one_ (i := 16) (N := some 162) #[true, true, true, true, true, true, true, true, true, true, true, true, true, true, true, true, true, true, true, false, false, false, false] rfl rfl (one_of HT_.out (by kernel_rfl)) (by decide) (fun K hK => ?_)
          refine Kd.R_append_rows_step (Kd.int .i64) (w0 := w9) w9.heap.size (by rfl) (.tmp 152) (.tmp 161) 24 3 (.int .i64 0) 8 rfl Tryd.underlying24 infoInt rfl (by decide) (by omega) (.slice (some ⟨w9.heap.size, 0, none⟩) 0 0) [] (ints r) _ _ _ (fun _ => True) (fun _ => False) rfl rfl ?aO ?aR (fun _ _ h => h) (fun _ h => h.elim) ?aF ?aB ?aS ?aL ?_
          (case aO => exact HO_c.out)
          (case aR => exact Kd.C_below HCr.out HB_c.out)
          (case aF => exact fun _ _ => trivial)
          (case aB => exact HB_c.out)
          (case aS => exact HB_c.out.size)
          (case aL => have := HRB.out; have := HRN.out; simp only [List.length_nil]; omega)
          intro v_ w_d ho hb hg hat
          obtain ⟨A_, c_, rfl, _, _⟩ := Kd.R_reads ho
          replace ho : (Kd.int .i64).R 3 w_d w9.heap.size (fun _ => True) (.slice A_ (ints r).length c_) (ints r) := ho
          rw [HRN.out] at ho
          have HA_ := Aside0.mk ho
          have HB_d := Aside0.mk hb
          have HG_d := Aside0.mk hg
          clear ho hb hg hat
          rw [show ([] ++ ints r : List Int).length = rn from HRN.out]
          refine hK.out _ _ ⟨(Below.cell (p := ⟨gr, 3, none⟩) HB_d.out HBk9.out.1).trans HS9.out.1, (Below.cell (p := ⟨tb8, k2 * 2 + 1, none⟩) HB_d.out HBk9.out.2).trans HS9.out.2⟩ (fun hHeld => ?_)
          clear hK K
          exact hcont (w9.heap.size, A_, c_, w_a.heap.size) _ ⟨HB_d.out, HA_.out, blk_grown HC_c.out HG_d.out (fun e => by simp [Value.ownBlock] at e; have := HN_c.out; omega)⟩
      · refine value_ (w1 := ?_) (v := ?_) (by rfl) rfl ?_ ?_
        rotate_left 2
        · go_simp
          constructor
          · rfl
          · rfl
        refine hK.out _ _ ⟨(Below.cell (p := ⟨gr, 3, none⟩) (below_alloc (Below.refl _ _) _) HBk9.out.1).trans HS9.out.1, (Below.cell (p := ⟨tb8, k2 * 2 + 1, none⟩) (below_alloc (Below.refl _ _) _) HBk9.out.2).trans HS9.out.2⟩ (fun hHeld => ?_)
        clear hK K
        refine norm_ (a' := ?_) ?_ ?_
        rotate_left
        · show Act.put _ (some 164) _ = _
          simp only [Act.put, List.setIfInBounds_toArray, List.set_cons_zero, List.set_cons_succ, i64_w, i32_w]
          rfl
        have HC_e := Aside0.mk (heap_alloc_new w9 (.cells #[.int .i64 (nn : Int)] 3))
        have HB_e := Aside0.mk (below_alloc (Below.refl w9.heap.size w9) (.cells #[.int .i64 (nn : Int)] 3))
        have HN_e := Aside0.mk (show w9.heap.size < (w9.alloc (.cells #[.int .i64 (nn : Int)] 3)).heap.size by simp)
        generalize w9.alloc (.cells #[.int .i64 (nn : Int)] 3) = w_e at HC_e HB_e HN_e hHeld ⊢
        refine one_ (i := 6) (N := some 152) #[true, true, true, true, true, true, true, true, true, true, true, true, true, true, true, true, false, true, true, false, false, false, false] rfl rfl (one_of HT_.out (by kernel_rfl)) (by decide) (fun K hK => ?_)
        refine value_ (w1 := ?_) (v := ?_) (by rfl) rfl ?_ ?_
        rotate_left 2
        · go_simp
          constructor
          · rfl
          · rfl
        refine hK.out _ _ ⟨(Below.cell (p := ⟨gr, 3, none⟩) (below_alloc HB_e.out _) HBk9.out.1).trans HS9.out.1, (Below.cell (p := ⟨tb8, k2 * 2 + 1, none⟩) (below_alloc HB_e.out _) HBk9.out.2).trans HS9.out.2⟩ (fun hHeld => ?_)
        clear hK K
        refine norm_ (a' := ?_) ?_ ?_
        rotate_left
        · show Act.put _ (some 152) _ = _
          simp only [Act.put, List.setIfInBounds_toArray, List.set_cons_zero, List.set_cons_succ, i64_w, i32_w]
          rfl
        have HO_f := Aside0.mk (Kd.R_lower (R_lit0 (Kd.int .i64) 3 w_e) HB_e.out.size)
        have HB_f := Aside0.mk (below_alloc HB_e.out (.cells #[] 3))
        have HC_f := Aside0.mk (blk_alloc HC_e.out (.cells #[] 3))
        generalize w_e.alloc (.cells #[] 3) = w_f at HO_f HB_f HC_f hHeld ⊢
        refine one_ (i := 16) (N := some 162) #[true, true, true, true, true, true, true, true, true, true, true, true, true, true, true, true, true, true, true, false, false, false, false] rfl rfl (one_of HT_.out (by kernel_rfl)) (by decide) (fun K hK => ?_)
        refine Kd.R_append_rows_step (Kd.int .i64) (w0 := w9) w9.heap.size (by rfl) (.tmp 152) (.tmp 161) 24 3 (.int .i64 0) 8 rfl Tryd.underlying24 infoInt rfl (by decide) (by omega) (.slice (some ⟨w_e.heap.size, 0, none⟩) 0 0) [] (ints r) _ _ _ (fun _ => True) (fun _ => False) rfl rfl ?aO ?aR (fun _ _ h => h) (fun _ h => h.elim) ?aF ?aB ?aS ?aL ?_
        (case aO => exact HO_f.out)
        (case aR => exact Kd.C_below HCr.out HB_f.out)
        (case aF => exact fun _ _ => trivial)
        (case aB => exact HB_f.out)
        (case aS => exact HB_f.out.size)
        (case aL => have := HRB.out; have := HRN.out; simp only [List.length_nil]; omega)
        intro v_ w_g ho hb hg hat
        obtain ⟨A_, c_, rfl, _, _⟩ := Kd.R_reads ho
        replace ho : (Kd.int .i64).R 3 w_g w9.heap.size (fun _ => True) (.slice A_ (ints r).length c_) (ints r) := ho
        rw [HRN.out] at ho
        have HA_ := Aside0.mk ho
        have HB_g := Aside0.mk hb
        have HG_g := Aside0.mk hg
        clear ho hb hg hat
        rw [show ([] ++ ints r : List Int).length = rn from HRN.out]
        refine hK.out _ _ ⟨(Below.cell (p := ⟨gr, 3, none⟩) HB_g.out HBk9.out.1).trans HS9.out.1, (Below.cell (p := ⟨tb8, k2 * 2 + 1, none⟩) HB_g.out HBk9.out.2).trans HS9.out.2⟩ (fun hHeld => ?_)
        clear hK K
        exact hcont (w_e.heap.size, A_, c_, w9.heap.size) _ ⟨HB_g.out, HA_.out, blk_grown HC_f.out HG_g.out (fun e => by simp [Value.ownBlock] at e; have := HN_e.out; omega)⟩
  · have hlt : ¬ (sp0 < st.length ∧ st.getD sp0 false = true) := fun h => hst h.2
    have hfin : s3.back red st = { s3.leave with spawns := s3.spawns.tail } := by
      unfold St.back
      rw [show s3.spawns.headD 0 = sp0 by rw [HQ3.out.2.2.2.1]; rfl, if_neg hst]
    have HFin := Aside0.mk (show RT w0 w7 gr F op un ps (s3.back red st) from by rw [hfin]; exact ⟨g7, HV.out, HR7.out.1, HR7.out.2.1, HR7.out.2.2⟩)
    clear hfin hlt
    by_cases hlt : sp0 < st.length
    · obtain ⟨ad, rfl, hx⟩ := (Kd.reads_of_C (d := false) hsc7).at_ (sp0 : Int) (by omega) (by omega)
      rw [Int.toNat_natCast, show rdOf false st (sp0 : Int) = false by unfold rdOf; rw [Int.toNat_natCast]; simpa using hst] at hx
      have e1 : decide (sp0 < st.length) = true := decide_eq_true hlt
      have e2 : decide ((sp0 : Int) < (st.length : Int)) = true := decide_eq_true (by omega)
      have hlt2 : (sp0 : Int) < (st.length : Int) := by omega
      clear hsc7
      go_wp2
      go_end0
      exact ⟨rfl, HI.out _ HFin.out⟩
    · have e1 : decide (sp0 < st.length) = false := decide_eq_false hlt
      have e2 : decide ((sp0 : Int) < (st.length : Int)) = false := decide_eq_false (by omega)
      clear hsc7
      go_wp2
      go_end0
      exact ⟨rfl, HI.out _ HFin.out⟩
end Go.Proofs.YtamfkglnejhjdaaDoor.Ref
