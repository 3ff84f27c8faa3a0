/- The law ScriptDecode: what it answers. -/
import Derived.Test.YtjlbimnafbngaaaDoorDocDec
import Derived.Test.YtjlbimnafbngaaaDoorMarks
import Derived.Test.YtjlbimnafbngaaaDoorKeep
import Derived.Test.YtjlbimnafbngaaaDoorDecSpoilt
namespace Go.Proofs.YtjlbimnafbngaaaDoor.Dec
open Go.RowKit Go.Proofs.YtjlbimnafbngaaaDoorW.PrintWords Go.Proofs.YtjlbimnafbngaaaDoorW.PrintLast Go.Proofs.YtjlbimnafbngaaaDoorW.PrintMore Go.Proofs.YtjlbimnafbngaaaDoor.BitMath Go.Proofs.YtjlbimnafbngaaaDoor.Fmt Go.Proofs.YtjlbimnafbngaaaDoor.PScriptDecode Go.Proofs.YtjlbimnafbngaaaDoor.Keep
open Go.Proofs.YtjlbimnafbngaaaDoor.Enc (same_calls)
set_option linter.unusedVariables false
set_option linter.unusedSimpArgs false
theorem dec_len (L : Bytes) : (decF L).1.1.length ≤ 1048576 ∧ (decF L).1.2.length ≤ 1048576 := by
  unfold decF
  split
  · exact ⟨Nat.zero_le _, Nat.zero_le _⟩
  · cases hp : pS L.length 70000 (tks L 0) with
    | none => exact ⟨Nat.zero_le _, Nat.zero_le _⟩
    | some q =>
      cases q with
      | inl p => exact ⟨Nat.zero_le _, Nat.zero_le _⟩
      | inr ab =>
        obtain ⟨a, b⟩ := ab
        dsimp only
        split
        · exact ⟨Nat.zero_le _, Nat.zero_le _⟩
        · exact ⟨by dsimp only; omega, by dsimp only; omega⟩
theorem spoilt_loop (d : Nat) : ∀ (l : List Int) (i k : Nat), i + d = l.length → d < k → l.length < 17592186044416 → ∃ r, plunderlaw10_spoilt.l0 k l (i : Int) = some r ∧ r.length = l.length + 1 := by
  induction d with
  | zero =>
    intro l i k hi hk hl
    obtain ⟨k, rfl⟩ : ∃ m, k = m + 1 := ⟨k - 1, by omega⟩
    simp only [plunderlaw10_spoilt.l0]
    rw [if_neg (by omega), if_pos hl]
    exact ⟨_, rfl, by simp⟩
  | succ d ih =>
    intro l i k hi hk hl
    obtain ⟨k, rfl⟩ : ∃ m, k = m + 1 := ⟨k - 1, by omega⟩
    simp only [plunderlaw10_spoilt.l0]
    rw [if_pos (by omega), if_pos (by omega), wrap_id (a := (i : Int) + 1) (by unfold In64; omega)]
    obtain ⟨r, hr, hl2⟩ := ih (l.set (i : Int).toNat (wrap64 ((-1) - (i : Int)))) (i + 1) k (by rw [List.length_set]; omega) (by omega) (by rw [List.length_set]; exact hl)
    exact ⟨r, hr, by rw [hl2, List.length_set]⟩
theorem spoilt_f (l : List Int) (hl : l.length < 17592186044416) : ∃ r, plunderlaw10_spoilt.f (l.length + 1) l = some r ∧ r.length = l.length + 1 :=
  spoilt_loop l.length l 0 _ (by omega) (by omega) hl
/-- A row of one's own, in its own block and in no other. -/
theorem R_exact {w : World} {base : Nat} {ok : Nat → Prop} {v : Value} {xs : List Int} (h : Kd.R (Kd.int .i64) 3 w base ok v xs) : Kd.R (Kd.int .i64) 3 w base (fun k => v.ownBlock = some k) v xs :=
  Kd.R_of_own (Kd.own_of_R h) (fun _ hk => hk)
set_option maxHeartbeats 16000000 in
set_option maxRecDepth 100000 in
theorem declaw_calls (T : ByteArray) (hs : T.size ≤ 9223372036854775807) (w : World) (hP : PowAt w) :
    Calls Tryd.prog 4 #[.string T] w fun e w' => e = .returned (.bool true) ∧ Below w.heap.size w w' := by
  have hu24 := Tryd.underlying24
  have hu34 := Tryd.underlying34
  have HPow := Aside0.mk hP
  have HSz := Aside0.mk hs
  obtain ⟨⟨⟨a, b⟩, ⟨e1, e2⟩⟩, hDD⟩ : ∃ r, decF T.data.toList = r := ⟨_, rfl⟩
  have HLen := Aside0.mk (show a.length ≤ 1048576 ∧ b.length ≤ 1048576 from by
    have h := dec_len T.data.toList
    rw [hDD] at h
    exact h)
  have HDD := Aside0.mk hDD
  obtain ⟨sp0, hsp0, hspl0⟩ := spoilt_f a (by have := HLen.out; omega)
  obtain ⟨sp1, hsp1, hspl1⟩ := spoilt_f b (by have := HLen.out; omega)
  have HSP0 := Aside0.mk (And.intro hsp0 hspl0)
  have HSP1 := Aside0.mk (And.intro hsp1 hspl1)
  clear hs hP hDD hsp0 hspl0 hsp1 hspl1
  go_enter Tryd.func4, Tryd.ntmps4
  go_wp2_with fail
  refine (decode_calls T HSz.out w HPow.out).mono ?_
  rintro e w1 hdend
  rw [HDD.out] at hdend
  obtain ⟨v0, v1, rfl, hR0, hR1, hb⟩ := hdend
  dsimp only at hR0 hR1 ⊢
  obtain ⟨A0, k0, rfl⟩ := Kd.R_slice hR0
  obtain ⟨A1, k1, rfl⟩ := Kd.R_slice hR1
  have HA0 := Aside0.mk hR0
  have HA1 := Aside0.mk hR1
  have HB1 := Aside0.mk hb
  clear hR0 hR1 hb
  go_upto_region 2 with (first | ((with_reducible refine gate_dst (N := 3) rfl ?_); refine box_event ?hg (N := 3) ?hd (cs := #[.slice none 0 0, .slice none 0 0]) (t := 24) ?hr ?_; (case hd => rfl); (case hg => rfl); (case hr => first | (go_simp; done) | (go_simp; rfl)); intro ga hg wga_ hbox hb; have HQ1 := Aside0.mk hbox; have HG_ga := Aside0.mk (show w1.heap.size ≤ ga from by rw [hg]; exact Nat.le_refl _); have HStep1 := Aside0.mk hb; clear hbox hb hg) | ((with_reducible refine gate_dst (N := 4) rfl ?_); refine box_event ?hg (N := 4) ?hd (cs := #[.int .i64 0, .int .i64 0]) (t := 34) ?hr ?_; (case hd => rfl); (case hg => rfl); (case hr => first | (go_simp; done) | (go_simp; rfl)); intro gb hg wgb_ hbox hb; have HQ1_ := Aside0.mk (blk_below HQ1.out hb); have HQ2 := Aside0.mk hbox; have HG_gb := Aside0.mk (show w1.heap.size ≤ gb from by rw [hg]; exact below_size HStep1.out); have HStep := Aside0.mk (below_step HStep1.out hb); have HNe := Aside0.mk (show ga ≠ gb from by rw [hg]; exact Nat.ne_of_lt (blk_lt HQ1.out)); clear hbox hb hg HQ1 HStep1; have HQ1 := HQ1_; clear HQ1_; have hne := HNe.out; have hne2 : gb ≠ ga := fun e => hne e.symm; have s0 : wgb_.cell? ⟨ga, 0, none⟩ = some (.slice none 0 0) := (blk_cell HQ1.out 0).trans rfl; have s1 : wgb_.cell? ⟨ga, 1, none⟩ = some (.slice none 0 0) := (blk_cell HQ1.out 1).trans rfl; have sf0 := blk_frozen HQ1.out 0; have sf1 := blk_frozen HQ1.out 1; have p0 : wgb_.cell? ⟨gb, 0, none⟩ = some (.int .i64 0) := (blk_cell HQ2.out 0).trans rfl; have p1 : wgb_.cell? ⟨gb, 1, none⟩ = some (.int .i64 0) := (blk_cell HQ2.out 1).trans rfl; have pf0 := blk_frozen HQ2.out 0; have pf1 := blk_frozen HQ2.out 1))
  have HQ_ga := Aside0.mk (show ((((wgb_.setCell ⟨ga, 0, none⟩ (.slice A0 a.length k0)).setCell ⟨ga, 1, none⟩ (.slice A1 b.length k1)).setCell ⟨gb, 0, none⟩ (.int .i64 e1)).setCell ⟨gb, 1, none⟩ (.int .i64 e2)).heap[ga]? = some (.cells #[.slice A0 a.length k0, .slice A1 b.length k1] 24 (0, 0)) from blk_far (blk_far (blk_put (cs := #[.slice A0 a.length k0, .slice none 0 0]) (blk_put (cs := #[.slice none 0 0, .slice none 0 0]) HQ1.out 0 _ rfl) 1 _ rfl) HNe.out _) HNe.out _)
  have HQ_gb := Aside0.mk (show ((((wgb_.setCell ⟨ga, 0, none⟩ (.slice A0 a.length k0)).setCell ⟨ga, 1, none⟩ (.slice A1 b.length k1)).setCell ⟨gb, 0, none⟩ (.int .i64 e1)).setCell ⟨gb, 1, none⟩ (.int .i64 e2)).heap[gb]? = some (.cells #[.int .i64 e1, .int .i64 e2] 34 (0, 0)) from blk_put (cs := #[.int .i64 e1, .int .i64 0]) (blk_put (cs := #[.int .i64 0, .int .i64 0]) (blk_far (blk_far HQ2.out HNe.out.symm _) HNe.out.symm _) 0 _ rfl) 1 _ rfl)
  have HS_ga := Aside0.mk (show Below w1.heap.size w1 ((((wgb_.setCell ⟨ga, 0, none⟩ (.slice A0 a.length k0)).setCell ⟨ga, 1, none⟩ (.slice A1 b.length k1)).setCell ⟨gb, 0, none⟩ (.int .i64 e1)).setCell ⟨gb, 1, none⟩ (.int .i64 e2)) from (((HStep.out.setCell (p := ⟨ga, 0, none⟩) HG_ga.out _).setCell (p := ⟨ga, 1, none⟩) HG_ga.out _).setCell (p := ⟨gb, 0, none⟩) HG_gb.out _).setCell (p := ⟨gb, 1, none⟩) HG_gb.out _)
  clear s0 s1 p0 p1 sf0 sf1 pf0 pf1 hne hne2 HQ1 HQ2 HStep HNe
  generalize ((((wgb_.setCell ⟨ga, 0, none⟩ (.slice A0 a.length k0)).setCell ⟨ga, 1, none⟩ (.slice A1 b.length k1)).setCell ⟨gb, 0, none⟩ (.int .i64 e1)).setCell ⟨gb, 1, none⟩ (.int .i64 e2)) = w2 at HQ_ga HQ_gb HS_ga ⊢
  have HB2 := Aside0.mk (below_step HB1.out HS_ga.out)
  have HA0lt := Aside0.mk (Kd.R_lt HA0.out)
  replace HA0 := Aside0.mk (R_exact (Kd.R_below HA0.out HS_ga.out))
  have HA01 := Aside0.mk (show ∀ k, (.slice A1 b.length k1 : Value).ownBlock = some k → (.slice A0 a.length k0 : Value).ownBlock ≠ some k from fun k hk h => HA1.out.1 k hk h.symm)
  have HAlt := Aside0.mk (show (∀ k, (.slice A0 a.length k0 : Value).ownBlock = some k → k < w1.heap.size) ∧ (∀ k, (.slice A1 b.length k1 : Value).ownBlock = some k → k < w1.heap.size) from ⟨fun k hk => HA0lt.out k hk, Kd.R_lt HA1.out⟩)
  replace HA1 := Aside0.mk (R_exact (Kd.R_below HA1.out HS_ga.out))
  go_wp2_with fail
  refine (decode_calls T HSz.out w2 (HPow.out.below HB2.out)).mono ?_
  rintro e w3 hdend
  rw [HDD.out] at hdend
  obtain ⟨v0, v1, rfl, hR0, hR1, hb⟩ := hdend
  dsimp only at hR0 hR1 ⊢
  obtain ⟨U0, j0, rfl⟩ := Kd.R_slice hR0
  obtain ⟨U1, j1, rfl⟩ := Kd.R_slice hR1
  have HU0 := Aside0.mk hR0
  have HU1 := Aside0.mk hR1
  have HB3 := Aside0.mk hb
  clear hR0 hR1 hb
  go_upto_region 3 with (first | ((with_reducible refine gate_dst (N := 5) rfl ?_); refine box_event ?hg (N := 5) ?hd (cs := #[.slice none 0 0, .slice none 0 0]) (t := 24) ?hr ?_; (case hd => rfl); (case hg => rfl); (case hr => first | (go_simp; done) | (go_simp; rfl)); intro gc hg wgc_ hbox hb; have HQ1 := Aside0.mk hbox; have HG_gc := Aside0.mk (show w3.heap.size ≤ gc from by rw [hg]; exact Nat.le_refl _); have HStep1 := Aside0.mk hb; clear hbox hb hg) | ((with_reducible refine gate_dst (N := 6) rfl ?_); refine box_event ?hg (N := 6) ?hd (cs := #[.int .i64 0, .int .i64 0]) (t := 34) ?hr ?_; (case hd => rfl); (case hg => rfl); (case hr => first | (go_simp; done) | (go_simp; rfl)); intro gd hg wgd_ hbox hb; have HQ1_ := Aside0.mk (blk_below HQ1.out hb); have HQ2 := Aside0.mk hbox; have HG_gd := Aside0.mk (show w3.heap.size ≤ gd from by rw [hg]; exact below_size HStep1.out); have HStep := Aside0.mk (below_step HStep1.out hb); have HNe := Aside0.mk (show gc ≠ gd from by rw [hg]; exact Nat.ne_of_lt (blk_lt HQ1.out)); clear hbox hb hg HQ1 HStep1; have HQ1 := HQ1_; clear HQ1_; have hne := HNe.out; have hne2 : gd ≠ gc := fun e => hne e.symm; have s0 : wgd_.cell? ⟨gc, 0, none⟩ = some (.slice none 0 0) := (blk_cell HQ1.out 0).trans rfl; have s1 : wgd_.cell? ⟨gc, 1, none⟩ = some (.slice none 0 0) := (blk_cell HQ1.out 1).trans rfl; have sf0 := blk_frozen HQ1.out 0; have sf1 := blk_frozen HQ1.out 1; have p0 : wgd_.cell? ⟨gd, 0, none⟩ = some (.int .i64 0) := (blk_cell HQ2.out 0).trans rfl; have p1 : wgd_.cell? ⟨gd, 1, none⟩ = some (.int .i64 0) := (blk_cell HQ2.out 1).trans rfl; have pf0 := blk_frozen HQ2.out 0; have pf1 := blk_frozen HQ2.out 1))
  have HQ_gc := Aside0.mk (show ((((wgd_.setCell ⟨gc, 0, none⟩ (.slice U0 a.length j0)).setCell ⟨gc, 1, none⟩ (.slice U1 b.length j1)).setCell ⟨gd, 0, none⟩ (.int .i64 e1)).setCell ⟨gd, 1, none⟩ (.int .i64 e2)).heap[gc]? = some (.cells #[.slice U0 a.length j0, .slice U1 b.length j1] 24 (0, 0)) from blk_far (blk_far (blk_put (cs := #[.slice U0 a.length j0, .slice none 0 0]) (blk_put (cs := #[.slice none 0 0, .slice none 0 0]) HQ1.out 0 _ rfl) 1 _ rfl) HNe.out _) HNe.out _)
  have HQ_gd := Aside0.mk (show ((((wgd_.setCell ⟨gc, 0, none⟩ (.slice U0 a.length j0)).setCell ⟨gc, 1, none⟩ (.slice U1 b.length j1)).setCell ⟨gd, 0, none⟩ (.int .i64 e1)).setCell ⟨gd, 1, none⟩ (.int .i64 e2)).heap[gd]? = some (.cells #[.int .i64 e1, .int .i64 e2] 34 (0, 0)) from blk_put (cs := #[.int .i64 e1, .int .i64 0]) (blk_put (cs := #[.int .i64 0, .int .i64 0]) (blk_far (blk_far HQ2.out HNe.out.symm _) HNe.out.symm _) 0 _ rfl) 1 _ rfl)
  have HS_gc := Aside0.mk (show Below w3.heap.size w3 ((((wgd_.setCell ⟨gc, 0, none⟩ (.slice U0 a.length j0)).setCell ⟨gc, 1, none⟩ (.slice U1 b.length j1)).setCell ⟨gd, 0, none⟩ (.int .i64 e1)).setCell ⟨gd, 1, none⟩ (.int .i64 e2)) from (((HStep.out.setCell (p := ⟨gc, 0, none⟩) HG_gc.out _).setCell (p := ⟨gc, 1, none⟩) HG_gc.out _).setCell (p := ⟨gd, 0, none⟩) HG_gd.out _).setCell (p := ⟨gd, 1, none⟩) HG_gd.out _)
  clear s0 s1 p0 p1 sf0 sf1 pf0 pf1 hne hne2 HQ1 HQ2 HStep HNe
  generalize ((((wgd_.setCell ⟨gc, 0, none⟩ (.slice U0 a.length j0)).setCell ⟨gc, 1, none⟩ (.slice U1 b.length j1)).setCell ⟨gd, 0, none⟩ (.int .i64 e1)).setCell ⟨gd, 1, none⟩ (.int .i64 e2)) = w4 at HQ_gc HQ_gd HS_gc ⊢
  have HB4 := Aside0.mk (below_step HB3.out HS_gc.out)
  have HU01 := Aside0.mk (show ∀ k, (.slice U1 b.length j1 : Value).ownBlock = some k → (.slice U0 a.length j0 : Value).ownBlock ≠ some k from fun k hk h => HU1.out.1 k hk h.symm)
  have HUlt := Aside0.mk (show (∀ k, (.slice U0 a.length j0 : Value).ownBlock = some k → k < w3.heap.size) ∧ (∀ k, (.slice U1 b.length j1 : Value).ownBlock = some k → k < w3.heap.size) from ⟨Kd.R_lt HU0.out, Kd.R_lt HU1.out⟩)
  replace HU0 := Aside0.mk (R_exact (Kd.R_below HU0.out HS_gc.out))
  replace HU1 := Aside0.mk (R_exact (Kd.R_below HU1.out HS_gc.out))
  have c0 : w4.cell? ⟨gc, 0, none⟩ = some (.slice U0 a.length j0) := (blk_cell HQ_gc.out 0).trans rfl
  have c1 : w4.cell? ⟨gc, 1, none⟩ = some (.slice U1 b.length j1) := (blk_cell HQ_gc.out 1).trans rfl
  have cf0 := blk_frozen HQ_gc.out 0
  have cf1 := blk_frozen HQ_gc.out 1
  go_wp2_with fail
  refine (plunderlaw10_spoilt.calls (a.length + 1) (fun k => (.slice U0 a.length j0 : Value).ownBlock = some k) (.slice U0 a.length j0) a sp0 w2 w4 HB4.out HU0.out HSP0.out.1).mono ?_
  rintro e w5 ⟨v, rfl, hR, hb, hk⟩
  obtain ⟨V0, d0, rfl⟩ := Kd.R_slice hR
  have HB5 := Aside0.mk hb
  have HNc0 := Aside0.mk (show ¬ (.slice U0 a.length j0 : Value).ownBlock = some gc from fun h => by have h1 := HUlt.out.1 gc h; have h2 := HG_gc.out; omega)
  have HNc1 := Aside0.mk (show ¬ (.slice U1 b.length j1 : Value).ownBlock = some gc from fun h => by have h1 := HUlt.out.2 gc h; have h2 := HG_gc.out; omega)
  have HQ5 := Aside0.mk ((hk.2 gc (blk_lt HQ_gc.out) HNc0.out).trans HQ_gc.out)
  have HU15 := Aside0.mk (Kd.R_kept HU1.out hk (fun k h1 h0 => HU01.out k h1 h0))
  clear hR hb hk c0 c1 cf0 cf1
  have c0 : w5.cell? ⟨gc, 0, none⟩ = some (.slice U0 a.length j0) := (blk_cell HQ5.out 0).trans rfl
  have c1 : w5.cell? ⟨gc, 1, none⟩ = some (.slice U1 b.length j1) := (blk_cell HQ5.out 1).trans rfl
  have cf0 := blk_frozen HQ5.out 0
  have cf1 := blk_frozen HQ5.out 1
  go_wp2_with fail
  have HGc2 := Aside0.mk (Nat.le_trans (below_size HB3.out) HG_gc.out)
  have HB6 := Aside0.mk (show Below w2.heap.size w2 (w5.setCell ⟨gc, 0, none⟩ (.slice V0 sp0.length d0)) from HB5.out.setCell (p := ⟨gc, 0, none⟩) HGc2.out _)
  have HQ6 := Aside0.mk (show (w5.setCell ⟨gc, 0, none⟩ (.slice V0 sp0.length d0)).heap[gc]? = some (.cells #[.slice V0 sp0.length d0, .slice U1 b.length j1] 24 (0, 0)) from blk_put (cs := #[.slice U0 a.length j0, .slice U1 b.length j1]) HQ5.out 0 _ rfl)
  have HU16 := Aside0.mk (Kd.R_far (p := ⟨gc, 0, none⟩) HU15.out (fun k hk h => HNc1.out (by rw [hk]; exact congrArg some h)) (.slice V0 sp0.length d0))
  clear c0 c1 cf0 cf1
  generalize w5.setCell ⟨gc, 0, none⟩ (.slice V0 sp0.length d0) = w6 at HB6 HQ6 HU16 ⊢
  refine (plunderlaw10_spoilt.calls (b.length + 1) (fun k => (.slice U1 b.length j1 : Value).ownBlock = some k) (.slice U1 b.length j1) b sp1 w2 w6 HB6.out HU16.out HSP1.out.1).mono ?_
  rintro e w7 ⟨v, rfl, hR, hb, hk⟩
  obtain ⟨V1, d1, rfl⟩ := Kd.R_slice hR
  have HQ7 := Aside0.mk ((hk.2 gc (blk_lt HQ6.out) HNc1.out).trans HQ6.out)
  have HB7 := Aside0.mk hb
  clear hR hb hk
  have HGa2 := Aside0.mk (show ga < w2.heap.size from blk_lt HQ_ga.out)
  replace HQ_ga := Aside0.mk (blk_below HQ_ga.out HB7.out)
  have HGb2 := Aside0.mk (show gb < w2.heap.size from blk_lt HQ_gb.out)
  replace HQ_gb := Aside0.mk (blk_below HQ_gb.out HB7.out)
  have c0 : w7.cell? ⟨gc, 0, none⟩ = some (.slice V0 sp0.length d0) := (blk_cell HQ7.out 0).trans rfl
  have c1 : w7.cell? ⟨gc, 1, none⟩ = some (.slice U1 b.length j1) := (blk_cell HQ7.out 1).trans rfl
  have cf0 := blk_frozen HQ7.out 0
  have cf1 := blk_frozen HQ7.out 1
  have a0 : w7.cell? ⟨ga, 0, none⟩ = some (.slice A0 a.length k0) := (blk_cell HQ_ga.out 0).trans rfl
  have a1 : w7.cell? ⟨ga, 1, none⟩ = some (.slice A1 b.length k1) := (blk_cell HQ_ga.out 1).trans rfl
  have af0 := blk_frozen HQ_ga.out 0
  have af1 := blk_frozen HQ_ga.out 1
  have hac : ga ≠ gc := fun h => by have h1 := HGc2.out; have h2 := HGa2.out; omega
  have hca : gc ≠ ga := hac.symm
  have HNac := Aside0.mk (show ¬ (.slice A0 a.length k0 : Value).ownBlock = some gc from fun h => by have h1 := HAlt.out.1 gc h; have h2 := HGc2.out; have h3 := below_size HS_ga.out; omega)
  go_wp2_with (first | ((with_reducible refine gate_builtin (b := .append) (xs := #[.tmp 29, .tmp 30]) rfl ?_); at_builtin; refine int_append (w0 := w) w.heap.size rfl (.tmp 29) (.tmp 30) 22 3 .i64 8 rfl Tryd.underlying22 info3 (by decide) (.slice A0 a.length k0) a (-7) (fun _ => True) rfl (by first | rfl | (go_simp; done) | (go_simp; simp [World.setCell]; done)) (fun _ _ => trivial) (Kd.R_mono (Kd.R_far (p := ⟨gc, 1, none⟩) (Kd.R_below HA0.out HB7.out) (fun k hk h => HNac.out (by rw [hk]; exact congrArg some h)) (.slice V1 sp1.length d1)) (fun _ _ => trivial)) (below_step HB2.out (HB7.out.setCell (p := ⟨gc, 1, none⟩) HGc2.out _)) (below_size (below_step HB2.out (HB7.out.setCell (p := ⟨gc, 1, none⟩) HGc2.out _))) (by have := HLen.out.1; omega) ?_; intro v w8 hR hb hg hat hh; have HR8 := Aside0.mk hR; have HB8 := Aside0.mk hb; have HG8 := Aside0.mk hg; have HH8 := Aside0.mk hh; clear hR hb hg hat hh))
  obtain ⟨pa, hpa⟩ : ∃ pa, pa = a.length + 1 := ⟨_, rfl⟩
  obtain ⟨pb, hpb⟩ : ∃ pb, pb = b.length + 1 := ⟨_, rfl⟩
  have HPab := Aside0.mk (And.intro hpa hpb)
  clear hpa hpb
  obtain ⟨L0, m0, rfl⟩ := Kd.R_slice HR8.out
  have HK8 := Aside0.mk (Kept.of_grown (S := fun k => (.slice A0 a.length k0 : Value).ownBlock = some k) HG8.out (Kept.refl _ _) (fun k hk => .inl hk))
  have HNb := Aside0.mk (show (¬ (.slice A0 a.length k0 : Value).ownBlock = some ga) ∧ (¬ (.slice A0 a.length k0 : Value).ownBlock = some gb) from ⟨fun h => by have h1 := HAlt.out.1 ga h; have h2 := HG_ga.out; omega, fun h => by have h1 := HAlt.out.1 gb h; have h2 := HG_gb.out; omega⟩)
  have HQa7 := Aside0.mk (blk_far HQ_ga.out hac (p := ⟨gc, 1, none⟩) (.slice V1 sp1.length d1))
  have HQb7 := Aside0.mk (blk_far HQ_gb.out (show gb ≠ gc from fun h => by have h1 := HGc2.out; have h2 := HGb2.out; omega) (p := ⟨gc, 1, none⟩) (.slice V1 sp1.length d1))
  have HQc7 := Aside0.mk (blk_put (cs := #[.slice V0 sp0.length d0, .slice U1 b.length j1]) HQ7.out 1 (.slice V1 sp1.length d1) rfl)
  clear a0 a1 af0 af1 c0 c1 cf0 cf1
  replace HQ_ga := Aside0.mk ((HK8.out.2 ga (blk_lt HQa7.out) HNb.out.1).trans HQa7.out)
  replace HQ_gb := Aside0.mk ((HK8.out.2 gb (blk_lt HQb7.out) HNb.out.2).trans HQb7.out)
  replace HQ_gc := Aside0.mk (show w8.heap[gc]? = some (.cells #[.slice V0 pa d0, .slice V1 pb d1] 24 (0, 0)) from by rw [HPab.out.1, HPab.out.2, ← HSP0.out.2, ← HSP1.out.2]; exact (HK8.out.2 gc (blk_lt HQc7.out) HNac.out).trans HQc7.out)
  have HCA := Aside0.mk (C_of_held (Kd.R_reads' HA0.out).2.2 HH8.out)
  have HCAl := Aside0.mk (Kd.R_reads' HA0.out).2.1
  have HA18 := Aside0.mk (Kd.R_kept (Kd.R_far (p := ⟨gc, 1, none⟩) (Kd.R_below HA1.out HB7.out) (fun k hk h => by have h1 := HAlt.out.2 k hk; have h2 := HGc2.out; have h3 := below_size HS_ga.out; have h4 : k = gc := h; omega) (.slice V1 sp1.length d1)) HK8.out (fun k h1 h0 => HA01.out k h1 h0))
  have HCB := Aside0.mk (Kd.R_reads' HA18.out).2.2
  have HCBl := Aside0.mk (Kd.R_reads' HA18.out).2.1
  clear HQa7 HQb7 HQc7 HA18 HQ5 HQ6 HQ7 HB7 HB6 HB5 HU15 HU16 HU0 HU1 HA0 HA1 HK8 HG8 HH8 hac hca
  refine (refdecode_calls T HSz.out w8).mono ?_
  rintro e w9 hdend
  rw [HDD.out] at hdend
  obtain ⟨v0, v1, rfl, hR0, hR1, hb⟩ := hdend
  dsimp only at hR0 hR1 ⊢
  obtain ⟨T0, t0, rfl⟩ := Kd.R_slice hR0
  obtain ⟨T1, t1, rfl⟩ := Kd.R_slice hR1
  have HT0 := Aside0.mk hR0
  have HT1 := Aside0.mk hR1
  have HB9 := Aside0.mk hb
  clear hR0 hR1 hb
  go_upto_region 7 with (first | ((with_reducible refine gate_dst (N := 8) rfl ?_); refine box_event ?hg (N := 8) ?hd (cs := #[.slice none 0 0, .slice none 0 0]) (t := 24) ?hr ?_; (case hd => rfl); (case hg => rfl); (case hr => first | (go_simp; done) | (go_simp; rfl)); intro gs hg wgs_ hbox hb; have HQ1 := Aside0.mk hbox; have HG_gs := Aside0.mk (show w9.heap.size ≤ gs from by rw [hg]; exact Nat.le_refl _); have HStep1 := Aside0.mk hb; clear hbox hb hg) | ((with_reducible refine gate_dst (N := 9) rfl ?_); refine box_event ?hg (N := 9) ?hd (cs := #[.int .i64 0, .int .i64 0]) (t := 34) ?hr ?_; (case hd => rfl); (case hg => rfl); (case hr => first | (go_simp; done) | (go_simp; rfl)); intro gt hg wgt_ hbox hb; have HQ1_ := Aside0.mk (blk_below HQ1.out hb); have HQ2 := Aside0.mk hbox; have HG_gt := Aside0.mk (show w9.heap.size ≤ gt from by rw [hg]; exact below_size HStep1.out); have HStep := Aside0.mk (below_step HStep1.out hb); have HNe := Aside0.mk (show gs ≠ gt from by rw [hg]; exact Nat.ne_of_lt (blk_lt HQ1.out)); clear hbox hb hg HQ1 HStep1; have HQ1 := HQ1_; clear HQ1_; have hne := HNe.out; have hne2 : gt ≠ gs := fun e => hne e.symm; have s0 : wgt_.cell? ⟨gs, 0, none⟩ = some (.slice none 0 0) := (blk_cell HQ1.out 0).trans rfl; have s1 : wgt_.cell? ⟨gs, 1, none⟩ = some (.slice none 0 0) := (blk_cell HQ1.out 1).trans rfl; have sf0 := blk_frozen HQ1.out 0; have sf1 := blk_frozen HQ1.out 1; have p0 : wgt_.cell? ⟨gt, 0, none⟩ = some (.int .i64 0) := (blk_cell HQ2.out 0).trans rfl; have p1 : wgt_.cell? ⟨gt, 1, none⟩ = some (.int .i64 0) := (blk_cell HQ2.out 1).trans rfl; have pf0 := blk_frozen HQ2.out 0; have pf1 := blk_frozen HQ2.out 1))
  have HQ_gs := Aside0.mk (show ((((wgt_.setCell ⟨gs, 0, none⟩ (.slice T0 a.length t0)).setCell ⟨gs, 1, none⟩ (.slice T1 b.length t1)).setCell ⟨gt, 0, none⟩ (.int .i64 e1)).setCell ⟨gt, 1, none⟩ (.int .i64 e2)).heap[gs]? = some (.cells #[.slice T0 a.length t0, .slice T1 b.length t1] 24 (0, 0)) from blk_far (blk_far (blk_put (cs := #[.slice T0 a.length t0, .slice none 0 0]) (blk_put (cs := #[.slice none 0 0, .slice none 0 0]) HQ1.out 0 _ rfl) 1 _ rfl) HNe.out _) HNe.out _)
  have HQ_gt := Aside0.mk (show ((((wgt_.setCell ⟨gs, 0, none⟩ (.slice T0 a.length t0)).setCell ⟨gs, 1, none⟩ (.slice T1 b.length t1)).setCell ⟨gt, 0, none⟩ (.int .i64 e1)).setCell ⟨gt, 1, none⟩ (.int .i64 e2)).heap[gt]? = some (.cells #[.int .i64 e1, .int .i64 e2] 34 (0, 0)) from blk_put (cs := #[.int .i64 e1, .int .i64 0]) (blk_put (cs := #[.int .i64 0, .int .i64 0]) (blk_far (blk_far HQ2.out HNe.out.symm _) HNe.out.symm _) 0 _ rfl) 1 _ rfl)
  have HS_gs := Aside0.mk (show Below w9.heap.size w9 ((((wgt_.setCell ⟨gs, 0, none⟩ (.slice T0 a.length t0)).setCell ⟨gs, 1, none⟩ (.slice T1 b.length t1)).setCell ⟨gt, 0, none⟩ (.int .i64 e1)).setCell ⟨gt, 1, none⟩ (.int .i64 e2)) from (((HStep.out.setCell (p := ⟨gs, 0, none⟩) HG_gs.out _).setCell (p := ⟨gs, 1, none⟩) HG_gs.out _).setCell (p := ⟨gt, 0, none⟩) HG_gt.out _).setCell (p := ⟨gt, 1, none⟩) HG_gt.out _)
  clear s0 s1 p0 p1 sf0 sf1 pf0 pf1 hne hne2 HQ1 HQ2 HStep HNe
  generalize ((((wgt_.setCell ⟨gs, 0, none⟩ (.slice T0 a.length t0)).setCell ⟨gs, 1, none⟩ (.slice T1 b.length t1)).setCell ⟨gt, 0, none⟩ (.int .i64 e1)).setCell ⟨gt, 1, none⟩ (.int .i64 e2)) = w10 at HQ_gs HQ_gt HS_gs ⊢
  have HB10 := Aside0.mk (below_step HB9.out HS_gs.out)
  replace HQ_ga := Aside0.mk (blk_below HQ_ga.out HB10.out)
  replace HQ_gb := Aside0.mk (blk_below HQ_gb.out HB10.out)
  replace HQ_gc := Aside0.mk (blk_below HQ_gc.out HB10.out)
  have a0 : w10.cell? ⟨ga, 0, none⟩ = some (.slice A0 a.length k0) := (blk_cell HQ_ga.out 0).trans rfl
  have a1 : w10.cell? ⟨ga, 1, none⟩ = some (.slice A1 b.length k1) := (blk_cell HQ_ga.out 1).trans rfl
  have b0 : w10.cell? ⟨gb, 0, none⟩ = some (.int .i64 e1) := (blk_cell HQ_gb.out 0).trans rfl
  have b1 : w10.cell? ⟨gb, 1, none⟩ = some (.int .i64 e2) := (blk_cell HQ_gb.out 1).trans rfl
  have c0 : w10.cell? ⟨gc, 0, none⟩ = some (.slice V0 pa d0) := (blk_cell HQ_gc.out 0).trans rfl
  have c1 : w10.cell? ⟨gc, 1, none⟩ = some (.slice V1 pb d1) := (blk_cell HQ_gc.out 1).trans rfl
  have s0 : w10.cell? ⟨gs, 0, none⟩ = some (.slice T0 a.length t0) := (blk_cell HQ_gs.out 0).trans rfl
  have s1 : w10.cell? ⟨gs, 1, none⟩ = some (.slice T1 b.length t1) := (blk_cell HQ_gs.out 1).trans rfl
  have t_0 : w10.cell? ⟨gt, 0, none⟩ = some (.int .i64 e1) := (blk_cell HQ_gt.out 0).trans rfl
  have t_1 : w10.cell? ⟨gt, 1, none⟩ = some (.int .i64 e2) := (blk_cell HQ_gt.out 1).trans rfl
  go_wp2_with fail
  refine (same_calls A0 A1 T0 T1 a.length b.length k0 k1 t0 t1 a b w10 rfl rfl (Kd.C_below HCA.out HB10.out) HCAl.out (Kd.C_below HCB.out HB10.out) HCBl.out (Kd.C_below (Kd.R_reads' HT0.out).2.2 HS_gs.out) (Kd.R_reads' HT0.out).2.1 (Kd.C_below (Kd.R_reads' HT1.out).2.2 HS_gs.out) (Kd.R_reads' HT1.out).2.1 (by have := HLen.out.1; omega) (by have := HLen.out.2; omega)).mono ?_
  rintro e w11 ⟨rfl, hb⟩
  clear a0 a1 b0 b1 c0 c1 s0 s1 t_0 t_1
  have HBw := Aside0.mk (below_step (below_step HB8.out HB10.out) hb)
  replace HQ_ga := Aside0.mk (blk_below HQ_ga.out hb)
  replace HQ_gb := Aside0.mk (blk_below HQ_gb.out hb)
  replace HQ_gc := Aside0.mk (blk_below HQ_gc.out hb)
  replace HQ_gs := Aside0.mk (blk_below HQ_gs.out hb)
  replace HQ_gt := Aside0.mk (blk_below HQ_gt.out hb)
  clear hb
  have a0 : w11.cell? ⟨ga, 0, none⟩ = some (.slice A0 a.length k0) := (blk_cell HQ_ga.out 0).trans rfl
  have a1 : w11.cell? ⟨ga, 1, none⟩ = some (.slice A1 b.length k1) := (blk_cell HQ_ga.out 1).trans rfl
  have b0 : w11.cell? ⟨gb, 0, none⟩ = some (.int .i64 e1) := (blk_cell HQ_gb.out 0).trans rfl
  have b1 : w11.cell? ⟨gb, 1, none⟩ = some (.int .i64 e2) := (blk_cell HQ_gb.out 1).trans rfl
  have c0 : w11.cell? ⟨gc, 0, none⟩ = some (.slice V0 pa d0) := (blk_cell HQ_gc.out 0).trans rfl
  have c1 : w11.cell? ⟨gc, 1, none⟩ = some (.slice V1 pb d1) := (blk_cell HQ_gc.out 1).trans rfl
  have s0 : w11.cell? ⟨gs, 0, none⟩ = some (.slice T0 a.length t0) := (blk_cell HQ_gs.out 0).trans rfl
  have s1 : w11.cell? ⟨gs, 1, none⟩ = some (.slice T1 b.length t1) := (blk_cell HQ_gs.out 1).trans rfl
  have t_0 : w11.cell? ⟨gt, 0, none⟩ = some (.int .i64 e1) := (blk_cell HQ_gt.out 0).trans rfl
  have t_1 : w11.cell? ⟨gt, 1, none⟩ = some (.int .i64 e2) := (blk_cell HQ_gt.out 1).trans rfl
  have hww : wrap64 ((pa : Int) + (pb : Int)) = (pa : Int) + (pb : Int) := by have h1 := HPab.out; have h2 := HLen.out; unfold wrap64; omega
  have hwd : decide (1 < (pa : Int) + (pb : Int)) = true := decide_eq_true (by have h1 := HPab.out; omega)
  go_wp2_with fail
  go_ret
  exact ⟨rfl, HBw.out⟩
end Go.Proofs.YtjlbimnafbngaaaDoor.Dec
