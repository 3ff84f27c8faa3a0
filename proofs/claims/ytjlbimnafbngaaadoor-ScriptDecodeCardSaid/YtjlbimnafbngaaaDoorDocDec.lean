/- The document: Decode: what it answers, for every text. -/
import Derived.Test.YtjlbimnafbngaaaDoorDocKnot
import Derived.Test.YtjlbimnafbngaaaDoorDecWalk
namespace Go.Proofs.YtjlbimnafbngaaaDoor.Dec
open Go.RowKit Go.Proofs.YtjlbimnafbngaaaDoorW.PrintWords Go.Proofs.YtjlbimnafbngaaaDoorW.PrintLast Go.Proofs.YtjlbimnafbngaaaDoorW.PrintMore Go.Proofs.YtjlbimnafbngaaaDoor.BitMath Go.Proofs.YtjlbimnafbngaaaDoor.PScriptDecode
open Go.Proofs.YtjlbimnafbngaaaDoor.ParseLaw (size_len)
set_option linter.unusedVariables false
set_option linter.unusedSimpArgs false
theorem pS_some (E : Nat) (ts : List Tok) (h : ts.length ≤ 65536) : ∃ r, pS E 70000 ts = some r := by
  unfold pS
  split
  · obtain ⟨r, hr, hl⟩ := pL_some E 70000 0 ts.tail (by simp; omega)
    rw [hr]
    cases r with
    | inl p => exact ⟨_, rfl⟩
    | inr lt =>
      obtain ⟨l, t⟩ := lt
      have h1 := hl l t rfl
      dsimp only
      split
      · obtain ⟨r2, hr2, hl2⟩ := pL_some E 70000 0 t.tail (by simp at h1 ⊢; omega)
        rw [hr2]
        cases r2 with
        | inl p => exact ⟨_, rfl⟩
        | inr lt =>
          obtain ⟨l2, t2⟩ := lt
          dsimp only
          split <;> exact ⟨_, rfl⟩
      · exact ⟨_, rfl⟩
  · exact ⟨_, rfl⟩
theorem sz_over {n : Nat} : szN n > 1048576 ↔ 1048576 < n := by
  unfold szN
  split <;> omega
set_option maxHeartbeats 16000000 in
set_option maxRecDepth 100000 in
theorem refdecode_calls (T : ByteArray) (hs : T.size ≤ 9223372036854775807) (w : World) :
    Calls Tryd.prog 14 #[.string T] w fun e w' => DEnd w w' e (decF T.data.toList) := by
  have hu24 := Tryd.underlying24
  have hu34 := Tryd.underlying34
  have hu66 := Tryd.underlying66
  have hu68 := Tryd.underlying68
  have hsI : (T.size : Int) ≤ 9223372036854775807 := by omega
  by_cases hbig : 65536 < T.size
  · have hbI : (65536 : Int) < (T.size : Int) := by omega
    have hd : decF T.data.toList = (([], []), (2, 0)) := by unfold decF; rw [if_pos (by rw [size_len]; exact hbig)]
    rw [hd]
    clear hd
    go_enter Tryd.func14, Tryd.ntmps14
    go_wp2_with (first | ((with_reducible refine gate_dst (N := 2) rfl ?_); refine box_event ?hg (N := 2) ?hd (cs := #[.slice none 0 0, .slice none 0 0]) (t := 24) ?hr ?_; (case hd => rfl); (case hg => rfl); (case hr => first | (go_simp; done) | (go_simp; rfl)); intro gs hg w1 hbox hb; have HS1 := Aside0.mk hbox; have HB1 := Aside0.mk hb; have HGs := Aside0.mk (show w.heap.size ≤ gs from by rw [hg]; exact Nat.le_refl _); clear hbox hb hg) | ((with_reducible refine gate_dst (N := 3) rfl ?_); refine box_event ?hg (N := 3) ?hd (cs := #[.int .i64 0, .int .i64 0]) (t := 34) ?hr ?_; (case hd => rfl); (case hg => rfl); (case hr => first | (go_simp; done) | (go_simp; rfl)); intro gp hg w2 hbox hb; have HS := Aside0.mk (blk_below HS1.out hb); have HPp := Aside0.mk hbox; have HB := Aside0.mk (below_step HB1.out hb); have HNe := Aside0.mk (show gs ≠ gp from by rw [hg]; exact Nat.ne_of_lt (blk_lt HS1.out)); have HGp := Aside0.mk (show w.heap.size ≤ gp from by rw [hg]; exact below_size HB1.out); clear hbox hb hg HS1 HB1; have hne := HNe.out; have hne2 : gp ≠ gs := fun e => hne e.symm; have s0 : w2.cell? ⟨gs, 0, none⟩ = some (.slice none 0 0) := (blk_cell HS.out 0).trans rfl; have s1 : w2.cell? ⟨gs, 1, none⟩ = some (.slice none 0 0) := (blk_cell HS.out 1).trans rfl; have p0 : w2.cell? ⟨gp, 0, none⟩ = some (.int .i64 0) := (blk_cell HPp.out 0).trans rfl; have p1 : w2.cell? ⟨gp, 1, none⟩ = some (.int .i64 0) := (blk_cell HPp.out 1).trans rfl; have sf0 := blk_frozen HS.out 0; have sf1 := blk_frozen HS.out 1; have pf0 := blk_frozen HPp.out 0; have pf1 := blk_frozen HPp.out 1))
    have HSx := Aside0.mk (show ((((w2.setCell ⟨gs, 0, none⟩ (.slice none 0 0)).setCell ⟨gs, 1, none⟩ (.slice none 0 0)).setCell ⟨gp, 0, none⟩ (.int .i64 2)).setCell ⟨gp, 1, none⟩ (.int .i64 0)).heap[gs]? = some (.cells #[.slice none 0 0, .slice none 0 0] 24 (0, 0)) from blk_far (blk_far (blk_put (cs := #[.slice none 0 0, .slice none 0 0]) (blk_put (cs := #[.slice none 0 0, .slice none 0 0]) HS.out 0 _ rfl) 1 _ rfl) HNe.out _) HNe.out _)
    have HPx := Aside0.mk (show ((((w2.setCell ⟨gs, 0, none⟩ (.slice none 0 0)).setCell ⟨gs, 1, none⟩ (.slice none 0 0)).setCell ⟨gp, 0, none⟩ (.int .i64 2)).setCell ⟨gp, 1, none⟩ (.int .i64 0)).heap[gp]? = some (.cells #[.int .i64 2, .int .i64 0] 34 (0, 0)) from blk_put (cs := #[.int .i64 2, .int .i64 0]) (blk_put (cs := #[.int .i64 0, .int .i64 0]) (blk_far (blk_far HPp.out HNe.out.symm _) HNe.out.symm _) 0 _ rfl) 1 _ rfl)
    have HBx := Aside0.mk (show Below w.heap.size w ((((w2.setCell ⟨gs, 0, none⟩ (.slice none 0 0)).setCell ⟨gs, 1, none⟩ (.slice none 0 0)).setCell ⟨gp, 0, none⟩ (.int .i64 2)).setCell ⟨gp, 1, none⟩ (.int .i64 0)) from (((HB.out.setCell (p := ⟨gs, 0, none⟩) HGs.out _).setCell (p := ⟨gs, 1, none⟩) HGs.out _).setCell (p := ⟨gp, 0, none⟩) HGp.out _).setCell (p := ⟨gp, 1, none⟩) HGp.out _)
    generalize ((((w2.setCell ⟨gs, 0, none⟩ (.slice none 0 0)).setCell ⟨gs, 1, none⟩ (.slice none 0 0)).setCell ⟨gp, 0, none⟩ (.int .i64 2)).setCell ⟨gp, 1, none⟩ (.int .i64 0)) = w9 at HSx HPx HBx ⊢
    refine bodyPost_ret (results_cc rfl _ _ gs gp 24 34 #[.slice none 0 0, .slice none 0 0] #[.int .i64 2, .int .i64 0] (0, 0) (0, 0) _ _ rfl HSx.out Tryd.underlying24 rfl (by kernel_rfl) rfl HPx.out Tryd.underlying34 rfl (by kernel_rfl)) rfl ?_
    exact dend_none HBx.out _ _
  · have hsz : T.size ≤ 65536 := by omega
    have hbI : (T.size : Int) ≤ 65536 := by omega
    have HT := Aside0.mk hsz
    obtain ⟨D, hD⟩ : ∃ D, decF T.data.toList = D := ⟨_, rfl⟩
    rw [hD]
    unfold decF at hD
    rw [if_neg (by rw [size_len]; exact hbig), size_len] at hD
    have htl := tks_len T.data.toList 0
    rw [size_len] at htl
    have hTok := Tokens_calls T hsz
    obtain ⟨ts, hts⟩ : ∃ ts, tks T.data.toList 0 = ts := ⟨_, rfl⟩
    rw [hts] at hD htl hTok
    obtain ⟨r, hr⟩ := pS_some T.size ts (by omega)
    obtain ⟨K, hK⟩ : ∃ K, 1118701 ≤ K := ⟨_, Nat.le_refl _⟩
    have HTL := Aside0.mk (show ts.length ≤ 65536 by omega)
    have HKK := Aside0.mk hK
    have HTok := Aside0.mk hTok
    have HScr := Aside0.mk (script_law T.size K ts (by omega) hK false r hr (fun h => by cases h))
    have HScr2 := Aside0.mk (script_law T.size K ts (by omega) hK true r hr)
    rw [hr] at hD
    have HD := Aside0.mk hD
    clear hD hbig hsz htl hTok hts hr hK hs
    go_enter Tryd.func14, Tryd.ntmps14
    go_wp2_with (first | ((with_reducible refine gate_dst (N := 2) rfl ?_); refine box_event ?hg (N := 2) ?hd (cs := #[.slice none 0 0, .slice none 0 0]) (t := 24) ?hr ?_; (case hd => rfl); (case hg => rfl); (case hr => first | (go_simp; done) | (go_simp; rfl)); intro gs hg w1 hbox hb; have HS1 := Aside0.mk hbox; have HB1 := Aside0.mk hb; have HGs := Aside0.mk (show w.heap.size ≤ gs from by rw [hg]; exact Nat.le_refl _); clear hbox hb hg) | ((with_reducible refine gate_dst (N := 3) rfl ?_); refine box_event ?hg (N := 3) ?hd (cs := #[.int .i64 0, .int .i64 0]) (t := 34) ?hr ?_; (case hd => rfl); (case hg => rfl); (case hr => first | (go_simp; done) | (go_simp; rfl)); intro gp hg w2 hbox hb; have HS := Aside0.mk (blk_below HS1.out hb); have HPp := Aside0.mk hbox; have HB := Aside0.mk (below_step HB1.out hb); have HNe := Aside0.mk (show gs ≠ gp from by rw [hg]; exact Nat.ne_of_lt (blk_lt HS1.out)); have HGp := Aside0.mk (show w.heap.size ≤ gp from by rw [hg]; exact below_size HB1.out); clear hbox hb hg HS1 HB1; have hne := HNe.out; have hne2 : gp ≠ gs := fun e => hne e.symm))
    refine (HTok.out w2).mono ?_
    rintro e wt ⟨v, rfl, hR, hb⟩
    obtain ⟨AT, cT, rfl⟩ := Kd.R_slice hR
    have HC := Aside0.mk (Kd.R_reads' hR).2.2
    replace HS := Aside0.mk (blk_below HS.out hb)
    replace HPp := Aside0.mk (blk_below HPp.out hb)
    have HBw := Aside0.mk (below_step HB.out hb)
    have HS0 := HS
    have HP0 := HPp
    clear hR hb HTok HB
    go_wp2_with (first | ((with_reducible refine gate_dst (N := 17) rfl ?_); refine box_event ?hg (N := 17) ?hd (cs := #[.slice AT (ts.map tokS).length cT, .int .i64 0, .bool false, .bool false]) (t := 66) ?hr ?_; (case hd => rfl); (case hg => rfl); (case hr => first | (go_simp; done) | (go_simp; rfl)); intro gr hg w3 hbox hb; have HR := Aside0.mk (show IsS66 wt w3 gr (ts.map tokS) ((0 : Nat) : Int) false false from ⟨AT, cT, hbox, by rw [hg]; exact Nat.le_refl _, HC.out⟩); replace HS := Aside0.mk (blk_below HS.out hb); replace HPp := Aside0.mk (blk_below HPp.out hb); have HBt := Aside0.mk hb; have HNr := Aside0.mk (show gs ≠ gr ∧ gp ≠ gr from by rw [hg]; exact ⟨Nat.ne_of_lt (Nat.lt_of_lt_of_le (blk_lt HS0.out) (Nat.le_refl _)), Nat.ne_of_lt (blk_lt HP0.out)⟩); clear hbox hb hg HS0 HP0))
    obtain ⟨N1, L1, N2, L2, J, Bd, hscr, hJ, hm⟩ := HScr.out
    have HJ := Aside0.mk hJ
    have HM := Aside0.mk hm
    clear hJ hm HScr
    refine (plunderref10_Reader_script.calls (itF K 9) (itF_calls K 9) K gr (ts.map tokS) ((0 : Nat) : Int) false false N1 L1 N2 L2 (J : Int) Bd false wt w3 HR.out HBt.out hscr).mono ?_
    rintro e w4 ⟨v1, v3, rfl, hR1, hR3, hI, hBt, hk⟩
    obtain ⟨A1, c1, rfl⟩ := Kd.R_slice hR1
    obtain ⟨A3, c3, rfl⟩ := Kd.R_slice hR3
    replace HS := Aside0.mk (hk.blk HS.out HNr.out.1 (by simp))
    replace HPp := Aside0.mk (hk.blk HPp.out HNr.out.2 (by simp))
    replace HR := Aside0.mk hI
    replace HBt := Aside0.mk hBt
    clear hR1 hR3 hI hBt hk hscr
    cases r with
    | inl p =>
      obtain ⟨rfl, hp⟩ := HM.out
      have HPs := Aside0.mk hp
      clear hp
      obtain ⟨j, hj⟩ : ∃ j : Int, j = (J : Int) := ⟨_, rfl⟩
      rw [← hj] at HR
      have hj0 : 0 ≤ j := by omega
      have HJj := Aside0.mk hj
      clear hj
      go_wp2_with (first | ((with_reducible refine gate_dst (N := 5) rfl ?_); refine box_event ?hg (N := 5) ?hd (cs := #[.int .i64 0, .slice none 0 0]) (t := 68) ?hr ?_; (case hd => rfl); (case hg => rfl); (case hr => first | (go_simp; done) | (go_simp; rfl)); intro g1 hg w5 hbox hb; have HNg1 := Aside0.mk (show gs ≠ g1 ∧ gp ≠ g1 ∧ gr ≠ g1 from by rw [hg]; exact ⟨Nat.ne_of_lt (blk_lt HS.out), Nat.ne_of_lt (blk_lt HPp.out), Nat.ne_of_lt (IsS66.lt HR.out)⟩); have HGg1 := Aside0.mk (show wt.heap.size ≤ g1 from by rw [hg]; exact below_size HBt.out); replace HS := Aside0.mk (blk_below HS.out hb); replace HPp := Aside0.mk (blk_below HPp.out hb); replace HR := Aside0.mk (IsS66.below HR.out hb); replace HBt := Aside0.mk (below_step HBt.out hb); have HQ1 := Aside0.mk hbox; clear hbox hb hg) | ((with_reducible refine gate_dst (N := 6) rfl ?_); refine box_event ?hg (N := 6) ?hd (cs := #[.int .i64 0, .slice none 0 0]) (t := 68) ?hr ?_; (case hd => rfl); (case hg => rfl); (case hr => first | (go_simp; done) | (go_simp; rfl)); intro g2 hg w6 hbox hb; have HNg2 := Aside0.mk (show gs ≠ g2 ∧ gp ≠ g2 ∧ gr ≠ g2 ∧ g1 ≠ g2 from by rw [hg]; exact ⟨Nat.ne_of_lt (blk_lt HS.out), Nat.ne_of_lt (blk_lt HPp.out), Nat.ne_of_lt (IsS66.lt HR.out), Nat.ne_of_lt (blk_lt HQ1.out)⟩); have HGg2 := Aside0.mk (show wt.heap.size ≤ g2 from by rw [hg]; exact below_size HBt.out); replace HS := Aside0.mk (blk_below HS.out hb); replace HPp := Aside0.mk (blk_below HPp.out hb); replace HR := Aside0.mk (IsS66.below HR.out hb); replace HBt := Aside0.mk (below_step HBt.out hb); replace HQ1 := Aside0.mk (blk_below HQ1.out hb); have HQ2 := Aside0.mk hbox; clear hbox hb hg; obtain ⟨Ar, cr, HGr, hgr, HTr⟩ := HR.out; have r0 := cellS66_0 HGr; have r1 := cellS66_1 HGr; have r2 := cellS66_2 HGr; have r3 := cellS66_3 HGr; clear HGr hgr; have q10 : w6.cell? ⟨g1, 0, none⟩ = some (.int .i64 0) := (blk_cell HQ1.out 0).trans rfl; have q11 : w6.cell? ⟨g1, 1, none⟩ = some (.slice none 0 0) := (blk_cell HQ1.out 1).trans rfl; have qf0 := blk_frozen HQ1.out 0; have qf1 := blk_frozen HQ1.out 1; have q20 : w6.cell? ⟨g2, 0, none⟩ = some (.int .i64 0) := (blk_cell HQ2.out 0).trans rfl; have q21 : w6.cell? ⟨g2, 1, none⟩ = some (.slice none 0 0) := (blk_cell HQ2.out 1).trans rfl; have qg0 := blk_frozen HQ2.out 0; have qg1 := blk_frozen HQ2.out 1; have n1 := HNr.out.1; have n2 := HNr.out.2; have n3 := HNg1.out.1; have n4 := HNg1.out.2.1; have n5 := HNg1.out.2.2; have n6 := HNg2.out.1; have n7 := HNg2.out.2.1; have n8 := HNg2.out.2.2.1; have n9 := HNg2.out.2.2.2; have m1 := n1.symm; have m2 := n2.symm; have m3 := n3.symm; have m4 := n4.symm; have m5 := n5.symm; have m6 := n6.symm; have m7 := n7.symm; have m8 := n8.symm; have m9 := n9.symm; have s0 : w6.cell? ⟨gs, 0, none⟩ = some (.slice none 0 0) := (blk_cell HS.out 0).trans rfl; have s1 : w6.cell? ⟨gs, 1, none⟩ = some (.slice none 0 0) := (blk_cell HS.out 1).trans rfl; have p0 : w6.cell? ⟨gp, 0, none⟩ = some (.int .i64 0) := (blk_cell HPp.out 0).trans rfl; have p1 : w6.cell? ⟨gp, 1, none⟩ = some (.int .i64 0) := (blk_cell HPp.out 1).trans rfl; have sf0 := blk_frozen HS.out 0; have sf1 := blk_frozen HS.out 1; have pf0 := blk_frozen HPp.out 0; have pf1 := blk_frozen HPp.out 1))
      replace HS := Aside0.mk (show ((((w6.setCell ⟨g1, 0, none⟩ (.int .i64 N1)).setCell ⟨g1, 1, none⟩ (.slice A1 L1.length c1)).setCell ⟨g2, 0, none⟩ (.int .i64 N2)).setCell ⟨g2, 1, none⟩ (.slice A3 L2.length c3)).heap[gs]? = _ from blk_far (blk_far (blk_far (blk_far HS.out n3 _) n3 _) n6 _) n6 _)
      replace HPp := Aside0.mk (show ((((w6.setCell ⟨g1, 0, none⟩ (.int .i64 N1)).setCell ⟨g1, 1, none⟩ (.slice A1 L1.length c1)).setCell ⟨g2, 0, none⟩ (.int .i64 N2)).setCell ⟨g2, 1, none⟩ (.slice A3 L2.length c3)).heap[gp]? = _ from blk_far (blk_far (blk_far (blk_far HPp.out n4 _) n4 _) n7 _) n7 _)
      replace HR := Aside0.mk (show IsS66 wt ((((w6.setCell ⟨g1, 0, none⟩ (.int .i64 N1)).setCell ⟨g1, 1, none⟩ (.slice A1 L1.length c1)).setCell ⟨g2, 0, none⟩ (.int .i64 N2)).setCell ⟨g2, 1, none⟩ (.slice A3 L2.length c3)) gr (ts.map tokS) j true false from IsS66.far (IsS66.far (IsS66.far (IsS66.far HR.out n5 _) n5 _) n8 _) n8 _)
      replace HQ1 := Aside0.mk (show ((((w6.setCell ⟨g1, 0, none⟩ (.int .i64 N1)).setCell ⟨g1, 1, none⟩ (.slice A1 L1.length c1)).setCell ⟨g2, 0, none⟩ (.int .i64 N2)).setCell ⟨g2, 1, none⟩ (.slice A3 L2.length c3)).heap[g1]? = some (.cells #[.int .i64 N1, .slice A1 L1.length c1] 68 (0, 0)) from blk_far (blk_far (blk_put (cs := #[.int .i64 N1, .slice none 0 0]) (blk_put (cs := #[.int .i64 0, .slice none 0 0]) HQ1.out 0 _ rfl) 1 _ rfl) n9 _) n9 _)
      replace HQ2 := Aside0.mk (show ((((w6.setCell ⟨g1, 0, none⟩ (.int .i64 N1)).setCell ⟨g1, 1, none⟩ (.slice A1 L1.length c1)).setCell ⟨g2, 0, none⟩ (.int .i64 N2)).setCell ⟨g2, 1, none⟩ (.slice A3 L2.length c3)).heap[g2]? = some (.cells #[.int .i64 N2, .slice A3 L2.length c3] 68 (0, 0)) from blk_put (cs := #[.int .i64 N2, .slice none 0 0]) (blk_put (cs := #[.int .i64 0, .slice none 0 0]) (blk_far (blk_far HQ2.out m9 _) m9 _) 0 _ rfl) 1 _ rfl)
      replace HBt := Aside0.mk (show Below wt.heap.size wt ((((w6.setCell ⟨g1, 0, none⟩ (.int .i64 N1)).setCell ⟨g1, 1, none⟩ (.slice A1 L1.length c1)).setCell ⟨g2, 0, none⟩ (.int .i64 N2)).setCell ⟨g2, 1, none⟩ (.slice A3 L2.length c3)) from (((HBt.out.setCell (p := ⟨g1, 0, none⟩) HGg1.out _).setCell (p := ⟨g1, 1, none⟩) HGg1.out _).setCell (p := ⟨g2, 0, none⟩) HGg2.out _).setCell (p := ⟨g2, 1, none⟩) HGg2.out _)
      clear r0 r1 r2 r3 q10 q11 q20 q21 qf0 qf1 qg0 qg1 s0 s1 p0 p1 sf0 sf1 pf0 pf1
      generalize ((((w6.setCell ⟨g1, 0, none⟩ (.int .i64 N1)).setCell ⟨g1, 1, none⟩ (.slice A1 L1.length c1)).setCell ⟨g2, 0, none⟩ (.int .i64 N2)).setCell ⟨g2, 1, none⟩ (.slice A3 L2.length c3)) = w7 at HS HPp HR HQ1 HQ2 HBt ⊢
      have HB := Aside0.mk (below_step HBw.out HBt.out)
      obtain ⟨Ar7, cr7, HGr, hgr, HTr7⟩ := HR.out
      have r0 := cellS66_0 HGr
      have r1 := cellS66_1 HGr
      have r2 := cellS66_2 HGr
      have r3 := cellS66_3 HGr
      clear HGr hgr
      have HT7 := Aside0.mk (Kd.C_below HTr7 HBt.out)
      clear HTr HTr7
      have s0 : w7.cell? ⟨gs, 0, none⟩ = some (.slice none 0 0) := (blk_cell HS.out 0).trans rfl
      have s1 : w7.cell? ⟨gs, 1, none⟩ = some (.slice none 0 0) := (blk_cell HS.out 1).trans rfl
      have p0 : w7.cell? ⟨gp, 0, none⟩ = some (.int .i64 0) := (blk_cell HPp.out 0).trans rfl
      have p1 : w7.cell? ⟨gp, 1, none⟩ = some (.int .i64 0) := (blk_cell HPp.out 1).trans rfl
      have sf0 := blk_frozen HS.out 0
      have sf1 := blk_frozen HS.out 1
      have pf0 := blk_frozen HPp.out 0
      have pf1 := blk_frozen HPp.out 1
      have hDp : D = (([], []), (100, (p : Int))) := HD.out.symm
      subst hDp
      by_cases hlt : j < (ts.length : Int)
      · have cb : decide (j < (ts.length : Int)) = true := decide_eq_true hlt
        obtain ⟨ad, rfl, y0, y1⟩ := at_T72 HT7.out j hj0 (by rw [List.length_map]; exact hlt)
        have hpv : (rd_T72 (ts.map tokS) j).f1 = (p : Int) := by
          have hJl : J < ts.length := by have := HJj.out; omega
          rw [HJj.out, rd_tok hJl, ← HPs.out, doc_drop_at hJl]
          rfl
        rw [hpv] at y1
        have hjn : j.toNat < ts.length := by omega
        repeat (go_quiet (fail); try go_wp2)
        refine bodyPost_ret (results_cc rfl _ _ gs gp 24 34 #[.slice none 0 0, .slice none 0 0] #[.int .i64 100, .int .i64 (p : Int)] (0, 0) (0, 0) _ _ rfl (blk_far (blk_far (blk_put (cs := #[.slice none 0 0, .slice none 0 0]) (blk_put (cs := #[.slice none 0 0, .slice none 0 0]) (blk_drewN HS.out _) 0 _ rfl) 1 _ rfl) HNe.out _) HNe.out _) Tryd.underlying24 rfl (by kernel_rfl) rfl (blk_put (cs := #[.int .i64 100, .int .i64 0]) (blk_put (cs := #[.int .i64 0, .int .i64 0]) (blk_far (blk_far (blk_drewN HPp.out _) HNe.out.symm _) HNe.out.symm _) 0 _ rfl) 1 _ rfl) Tryd.underlying34 rfl (by kernel_rfl)) rfl ?_
        exact dend_none (((((pw_below_drewN HB.out _).setCell (p := ⟨gs, 0, none⟩) HGs.out _).setCell (p := ⟨gs, 1, none⟩) HGs.out _).setCell (p := ⟨gp, 0, none⟩) HGp.out _).setCell (p := ⟨gp, 1, none⟩) HGp.out _) _ _
      · have cb : decide (j < (ts.length : Int)) = false := decide_eq_false hlt
        have hpv : (p : Int) = (T.size : Int) := by
          have hJl : ¬ J < ts.length := by have := HJj.out; omega
          rw [← HPs.out, drop_end hJl]
          rfl
        have HPV := Aside0.mk hpv
        clear hlt hpv
        repeat (go_quiet (fail); try go_wp2)
        refine bodyPost_ret (results_cc rfl _ _ gs gp 24 34 #[.slice none 0 0, .slice none 0 0] #[.int .i64 100, .int .i64 (T.size : Int)] (0, 0) (0, 0) _ _ rfl (blk_far (blk_far (blk_put (cs := #[.slice none 0 0, .slice none 0 0]) (blk_put (cs := #[.slice none 0 0, .slice none 0 0]) (blk_drewN HS.out _) 0 _ rfl) 1 _ rfl) HNe.out _) HNe.out _) Tryd.underlying24 rfl (by kernel_rfl) rfl (blk_put (cs := #[.int .i64 100, .int .i64 0]) (blk_put (cs := #[.int .i64 0, .int .i64 0]) (blk_far (blk_far (blk_drewN HPp.out _) HNe.out.symm _) HNe.out.symm _) 0 _ rfl) 1 _ rfl) Tryd.underlying34 rfl (by kernel_rfl)) rfl ?_
        rw [HPV.out]
        exact dend_none (((((pw_below_drewN HB.out _).setCell (p := ⟨gs, 0, none⟩) HGs.out _).setCell (p := ⟨gs, 1, none⟩) HGs.out _).setCell (p := ⟨gp, 0, none⟩) HGp.out _).setCell (p := ⟨gp, 1, none⟩) HGp.out _) _ _
    | inr xy =>
      obtain ⟨x, y⟩ := xy
      obtain ⟨rfl, hn1, hl1, hn2, hl2⟩ := HM.out
      have HN1 := Aside0.mk hn1
      have HN2 := Aside0.mk hn2
      clear hn1 hn2 hl1 hl2
      go_upto_region 10 with (first | ((with_reducible refine gate_dst (N := 5) rfl ?_); refine box_event ?hg (N := 5) ?hd (cs := #[.int .i64 0, .slice none 0 0]) (t := 68) ?hr ?_; (case hd => rfl); (case hg => rfl); (case hr => first | (go_simp; done) | (go_simp; rfl)); intro g1 hg w5 hbox hb; have HNg1 := Aside0.mk (show gs ≠ g1 ∧ gp ≠ g1 ∧ gr ≠ g1 from by rw [hg]; exact ⟨Nat.ne_of_lt (blk_lt HS.out), Nat.ne_of_lt (blk_lt HPp.out), Nat.ne_of_lt (IsS66.lt HR.out)⟩); have HGg1 := Aside0.mk (show wt.heap.size ≤ g1 from by rw [hg]; exact below_size HBt.out); replace HS := Aside0.mk (blk_below HS.out hb); replace HPp := Aside0.mk (blk_below HPp.out hb); replace HR := Aside0.mk (IsS66.below HR.out hb); replace HBt := Aside0.mk (below_step HBt.out hb); have HQ1 := Aside0.mk hbox; clear hbox hb hg) | ((with_reducible refine gate_dst (N := 6) rfl ?_); refine box_event ?hg (N := 6) ?hd (cs := #[.int .i64 0, .slice none 0 0]) (t := 68) ?hr ?_; (case hd => rfl); (case hg => rfl); (case hr => first | (go_simp; done) | (go_simp; rfl)); intro g2 hg w6 hbox hb; have HNg2 := Aside0.mk (show gs ≠ g2 ∧ gp ≠ g2 ∧ gr ≠ g2 ∧ g1 ≠ g2 from by rw [hg]; exact ⟨Nat.ne_of_lt (blk_lt HS.out), Nat.ne_of_lt (blk_lt HPp.out), Nat.ne_of_lt (IsS66.lt HR.out), Nat.ne_of_lt (blk_lt HQ1.out)⟩); have HGg2 := Aside0.mk (show wt.heap.size ≤ g2 from by rw [hg]; exact below_size HBt.out); replace HS := Aside0.mk (blk_below HS.out hb); replace HPp := Aside0.mk (blk_below HPp.out hb); replace HR := Aside0.mk (IsS66.below HR.out hb); replace HBt := Aside0.mk (below_step HBt.out hb); replace HQ1 := Aside0.mk (blk_below HQ1.out hb); have HQ2 := Aside0.mk hbox; clear hbox hb hg; obtain ⟨Ar, cr, HGr, hgr, HTr⟩ := HR.out; have r0 := cellS66_0 HGr; have r1 := cellS66_1 HGr; have r2 := cellS66_2 HGr; have r3 := cellS66_3 HGr; clear HGr hgr; have q10 : w6.cell? ⟨g1, 0, none⟩ = some (.int .i64 0) := (blk_cell HQ1.out 0).trans rfl; have q11 : w6.cell? ⟨g1, 1, none⟩ = some (.slice none 0 0) := (blk_cell HQ1.out 1).trans rfl; have qf0 := blk_frozen HQ1.out 0; have qf1 := blk_frozen HQ1.out 1; have q20 : w6.cell? ⟨g2, 0, none⟩ = some (.int .i64 0) := (blk_cell HQ2.out 0).trans rfl; have q21 : w6.cell? ⟨g2, 1, none⟩ = some (.slice none 0 0) := (blk_cell HQ2.out 1).trans rfl; have qg0 := blk_frozen HQ2.out 0; have qg1 := blk_frozen HQ2.out 1; have n1 := HNr.out.1; have n2 := HNr.out.2; have n3 := HNg1.out.1; have n4 := HNg1.out.2.1; have n5 := HNg1.out.2.2; have n6 := HNg2.out.1; have n7 := HNg2.out.2.1; have n8 := HNg2.out.2.2.1; have n9 := HNg2.out.2.2.2; have m1 := n1.symm; have m2 := n2.symm; have m3 := n3.symm; have m4 := n4.symm; have m5 := n5.symm; have m6 := n6.symm; have m7 := n7.symm; have m8 := n8.symm; have m9 := n9.symm; have s0 : w6.cell? ⟨gs, 0, none⟩ = some (.slice none 0 0) := (blk_cell HS.out 0).trans rfl; have s1 : w6.cell? ⟨gs, 1, none⟩ = some (.slice none 0 0) := (blk_cell HS.out 1).trans rfl; have p0 : w6.cell? ⟨gp, 0, none⟩ = some (.int .i64 0) := (blk_cell HPp.out 0).trans rfl; have p1 : w6.cell? ⟨gp, 1, none⟩ = some (.int .i64 0) := (blk_cell HPp.out 1).trans rfl; have sf0 := blk_frozen HS.out 0; have sf1 := blk_frozen HS.out 1; have pf0 := blk_frozen HPp.out 0; have pf1 := blk_frozen HPp.out 1))
      replace HS := Aside0.mk (show ((((w6.setCell ⟨g1, 0, none⟩ (.int .i64 N1)).setCell ⟨g1, 1, none⟩ (.slice A1 L1.length c1)).setCell ⟨g2, 0, none⟩ (.int .i64 N2)).setCell ⟨g2, 1, none⟩ (.slice A3 L2.length c3)).heap[gs]? = _ from blk_far (blk_far (blk_far (blk_far HS.out n3 _) n3 _) n6 _) n6 _)
      replace HPp := Aside0.mk (show ((((w6.setCell ⟨g1, 0, none⟩ (.int .i64 N1)).setCell ⟨g1, 1, none⟩ (.slice A1 L1.length c1)).setCell ⟨g2, 0, none⟩ (.int .i64 N2)).setCell ⟨g2, 1, none⟩ (.slice A3 L2.length c3)).heap[gp]? = _ from blk_far (blk_far (blk_far (blk_far HPp.out n4 _) n4 _) n7 _) n7 _)
      replace HR := Aside0.mk (show IsS66 wt ((((w6.setCell ⟨g1, 0, none⟩ (.int .i64 N1)).setCell ⟨g1, 1, none⟩ (.slice A1 L1.length c1)).setCell ⟨g2, 0, none⟩ (.int .i64 N2)).setCell ⟨g2, 1, none⟩ (.slice A3 L2.length c3)) gr (ts.map tokS) (J : Int) false false from IsS66.far (IsS66.far (IsS66.far (IsS66.far HR.out n5 _) n5 _) n8 _) n8 _)
      replace HQ1 := Aside0.mk (show ((((w6.setCell ⟨g1, 0, none⟩ (.int .i64 N1)).setCell ⟨g1, 1, none⟩ (.slice A1 L1.length c1)).setCell ⟨g2, 0, none⟩ (.int .i64 N2)).setCell ⟨g2, 1, none⟩ (.slice A3 L2.length c3)).heap[g1]? = some (.cells #[.int .i64 N1, .slice A1 L1.length c1] 68 (0, 0)) from blk_far (blk_far (blk_put (cs := #[.int .i64 N1, .slice none 0 0]) (blk_put (cs := #[.int .i64 0, .slice none 0 0]) HQ1.out 0 _ rfl) 1 _ rfl) n9 _) n9 _)
      replace HQ2 := Aside0.mk (show ((((w6.setCell ⟨g1, 0, none⟩ (.int .i64 N1)).setCell ⟨g1, 1, none⟩ (.slice A1 L1.length c1)).setCell ⟨g2, 0, none⟩ (.int .i64 N2)).setCell ⟨g2, 1, none⟩ (.slice A3 L2.length c3)).heap[g2]? = some (.cells #[.int .i64 N2, .slice A3 L2.length c3] 68 (0, 0)) from blk_put (cs := #[.int .i64 N2, .slice none 0 0]) (blk_put (cs := #[.int .i64 0, .slice none 0 0]) (blk_far (blk_far HQ2.out m9 _) m9 _) 0 _ rfl) 1 _ rfl)
      replace HBt := Aside0.mk (show Below wt.heap.size wt ((((w6.setCell ⟨g1, 0, none⟩ (.int .i64 N1)).setCell ⟨g1, 1, none⟩ (.slice A1 L1.length c1)).setCell ⟨g2, 0, none⟩ (.int .i64 N2)).setCell ⟨g2, 1, none⟩ (.slice A3 L2.length c3)) from (((HBt.out.setCell (p := ⟨g1, 0, none⟩) HGg1.out _).setCell (p := ⟨g1, 1, none⟩) HGg1.out _).setCell (p := ⟨g2, 0, none⟩) HGg2.out _).setCell (p := ⟨g2, 1, none⟩) HGg2.out _)
      clear r0 r1 r2 r3 q10 q11 q20 q21 qf0 qf1 qg0 qg1 s0 s1 p0 p1 sf0 sf1 pf0 pf1
      generalize ((((w6.setCell ⟨g1, 0, none⟩ (.int .i64 N1)).setCell ⟨g1, 1, none⟩ (.slice A1 L1.length c1)).setCell ⟨g2, 0, none⟩ (.int .i64 N2)).setCell ⟨g2, 1, none⟩ (.slice A3 L2.length c3)) = w7 at HS HPp HR HQ1 HQ2 HBt ⊢
      have HB := Aside0.mk (below_step HBw.out HBt.out)
      obtain ⟨Ar7, cr7, HGr, hgr, HTr7⟩ := HR.out
      have r0 := cellS66_0 HGr
      have r1 := cellS66_1 HGr
      have r2 := cellS66_2 HGr
      have r3 := cellS66_3 HGr
      clear HGr hgr
      have HT7 := Aside0.mk (Kd.C_below HTr7 HBt.out)
      have HTr0 := Aside0.mk HTr7
      clear HTr HTr7
      have s0 : w7.cell? ⟨gs, 0, none⟩ = some (.slice none 0 0) := (blk_cell HS.out 0).trans rfl
      have s1 : w7.cell? ⟨gs, 1, none⟩ = some (.slice none 0 0) := (blk_cell HS.out 1).trans rfl
      have p0 : w7.cell? ⟨gp, 0, none⟩ = some (.int .i64 0) := (blk_cell HPp.out 0).trans rfl
      have p1 : w7.cell? ⟨gp, 1, none⟩ = some (.int .i64 0) := (blk_cell HPp.out 1).trans rfl
      have sf0 := blk_frozen HS.out 0
      have sf1 := blk_frozen HS.out 1
      have pf0 := blk_frozen HPp.out 0
      have pf1 := blk_frozen HPp.out 1
      have q10 : w7.cell? ⟨g1, 0, none⟩ = some (.int .i64 N1) := (blk_cell HQ1.out 0).trans rfl
      have q11 : w7.cell? ⟨g1, 1, none⟩ = some (.slice A1 L1.length c1) := (blk_cell HQ1.out 1).trans rfl
      have q20 : w7.cell? ⟨g2, 0, none⟩ = some (.int .i64 N2) := (blk_cell HQ2.out 0).trans rfl
      have q21 : w7.cell? ⟨g2, 1, none⟩ = some (.slice A3 L2.length c3) := (blk_cell HQ2.out 1).trans rfl
      by_cases ho1 : 1048576 < N1
      · have HOv := Aside0.mk (show 1048576 < (expL x).length ∨ 1048576 < (expL y).length from .inl (sz_over.1 (by rw [← HN1.out]; exact ho1)))
        have d1 : decide (1048576 < N1) = true := decide_eq_true ho1
        clear ho1
        have hDp : D = (([], []), (2, 0)) := by
          rw [← HD.out]
          exact if_pos HOv.out
        subst hDp
        go_wp2_with fail
        refine bodyPost_ret (results_cc rfl _ _ gs gp 24 34 #[.slice none 0 0, .slice none 0 0] #[.int .i64 2, .int .i64 0] (0, 0) (0, 0) _ _ rfl (blk_far (blk_far (blk_put (cs := #[.slice none 0 0, .slice none 0 0]) (blk_put (cs := #[.slice none 0 0, .slice none 0 0]) HS.out 0 _ rfl) 1 _ rfl) HNe.out _) HNe.out _) Tryd.underlying24 rfl (by kernel_rfl) rfl (blk_put (cs := #[.int .i64 2, .int .i64 0]) (blk_put (cs := #[.int .i64 0, .int .i64 0]) (blk_far (blk_far HPp.out HNe.out.symm _) HNe.out.symm _) 0 _ rfl) 1 _ rfl) Tryd.underlying34 rfl (by kernel_rfl)) rfl ?_
        exact dend_none ((((HB.out.setCell (p := ⟨gs, 0, none⟩) HGs.out _).setCell (p := ⟨gs, 1, none⟩) HGs.out _).setCell (p := ⟨gp, 0, none⟩) HGp.out _).setCell (p := ⟨gp, 1, none⟩) HGp.out _) _ _
      · have d1 : decide (1048576 < N1) = false := decide_eq_false ho1
        by_cases ho2 : 1048576 < N2
        · have HOv := Aside0.mk (show 1048576 < (expL x).length ∨ 1048576 < (expL y).length from .inr (sz_over.1 (by rw [← HN2.out]; exact ho2)))
          have d2 : decide (1048576 < N2) = true := decide_eq_true ho2
          clear ho1 ho2
          have hDp : D = (([], []), (2, 0)) := by
            rw [← HD.out]
            exact if_pos HOv.out
          subst hDp
          go_wp2_with fail
          refine bodyPost_ret (results_cc rfl _ _ gs gp 24 34 #[.slice none 0 0, .slice none 0 0] #[.int .i64 2, .int .i64 0] (0, 0) (0, 0) _ _ rfl (blk_far (blk_far (blk_put (cs := #[.slice none 0 0, .slice none 0 0]) (blk_put (cs := #[.slice none 0 0, .slice none 0 0]) HS.out 0 _ rfl) 1 _ rfl) HNe.out _) HNe.out _) Tryd.underlying24 rfl (by kernel_rfl) rfl (blk_put (cs := #[.int .i64 2, .int .i64 0]) (blk_put (cs := #[.int .i64 0, .int .i64 0]) (blk_far (blk_far HPp.out HNe.out.symm _) HNe.out.symm _) 0 _ rfl) 1 _ rfl) Tryd.underlying34 rfl (by kernel_rfl)) rfl ?_
          exact dend_none ((((HB.out.setCell (p := ⟨gs, 0, none⟩) HGs.out _).setCell (p := ⟨gs, 1, none⟩) HGs.out _).setCell (p := ⟨gp, 0, none⟩) HGp.out _).setCell (p := ⟨gp, 1, none⟩) HGp.out _) _ _
        · have d2 : decide (1048576 < N2) = false := decide_eq_false ho2
          have hx : ¬ 1048576 < (expL x).length := fun h => ho1 (by rw [HN1.out]; exact sz_over.2 h)
          have hy : ¬ 1048576 < (expL y).length := fun h => ho2 (by rw [HN2.out]; exact sz_over.2 h)
          have hDp : D = ((expL x, expL y), (0, 0)) := by
            rw [← HD.out]
            exact if_neg (by omega)
          subst hDp
          obtain ⟨M1, P1, M2, P2, J2, Bd2, hscr2, hJ2, hbd2, hM1, hP1, hM2, hP2⟩ := HScr2.out (fun _ => ⟨x, y, rfl, by omega, by omega⟩)
          replace hP1 : P1 = expL x := hP1
          replace hP2 : P2 = expL y := hP2
          subst hP1 hP2
          have HSC := Aside0.mk hscr2
          clear hx hy ho1 ho2 hscr2 hJ2 hbd2 hM1 hM2
          go_wp2_with (first | ((with_reducible refine gate_dst (N := 68) rfl ?_); refine box_event ?hg (N := 68) ?hd (cs := #[.slice Ar7 (ts.map tokS).length cr7, .int .i64 0, .bool false, .bool true]) (t := 66) ?hr ?_; (case hd => rfl); (case hg => rfl); (case hr => first | (go_simp; done) | (go_simp; rfl)); intro gq hg w8 hbox hb; have HR2 := Aside0.mk (show IsS66 wt w8 gq (ts.map tokS) ((0 : Nat) : Int) false true from ⟨Ar7, cr7, hbox, by rw [hg]; exact below_size HBt.out, HTr0.out⟩); have HNq := Aside0.mk (show gs ≠ gq ∧ gp ≠ gq ∧ g1 ≠ gq ∧ g2 ≠ gq from by rw [hg]; exact ⟨Nat.ne_of_lt (blk_lt HS.out), Nat.ne_of_lt (blk_lt HPp.out), Nat.ne_of_lt (blk_lt HQ1.out), Nat.ne_of_lt (blk_lt HQ2.out)⟩); replace HS := Aside0.mk (blk_below HS.out hb); replace HPp := Aside0.mk (blk_below HPp.out hb); replace HQ1 := Aside0.mk (blk_below HQ1.out hb); replace HQ2 := Aside0.mk (blk_below HQ2.out hb); replace HBt := Aside0.mk (below_step HBt.out hb); clear hbox hb hg))
          refine (plunderref10_Reader_script.calls (itF K 9) (itF_calls K 9) K gq (ts.map tokS) ((0 : Nat) : Int) false true M1 (expL x) M2 (expL y) (J2 : Int) Bd2 true wt w8 HR2.out HBt.out HSC.out).mono ?_
          rintro e w9 ⟨v1, v3, rfl, hR1, hR3, hI, hBt, hk⟩
          obtain ⟨B1, k1, rfl⟩ := Kd.R_slice hR1
          obtain ⟨B3, k3, rfl⟩ := Kd.R_slice hR3
          have hwz := Nat.le_trans (below_size HBw.out) (below_size HBt.out)
          have HO1 := Aside0.mk (Kd.R_lower hR1 hwz)
          have HO3 := Aside0.mk (Kd.R_lower hR3 hwz)
          replace HS := Aside0.mk (hk.blk HS.out HNq.out.1 (by simp))
          replace HPp := Aside0.mk (hk.blk HPp.out HNq.out.2.1 (by simp))
          replace HQ1 := Aside0.mk (hk.blk HQ1.out HNq.out.2.2.1 (by simp))
          replace HQ2 := Aside0.mk (hk.blk HQ2.out HNq.out.2.2.2 (by simp))
          replace HBt := Aside0.mk hBt
          have HB9 := Aside0.mk (below_step HBw.out hBt)
          clear hR1 hR3 hI hBt hk hwz q10 q11 q20 q21 s0 s1 p0 p1 sf0 sf1 pf0 pf1 r0 r1 r2 r3
          have q10 : w9.cell? ⟨g1, 0, none⟩ = some (.int .i64 N1) := (blk_cell HQ1.out 0).trans rfl
          have q11 : w9.cell? ⟨g1, 1, none⟩ = some (.slice A1 L1.length c1) := (blk_cell HQ1.out 1).trans rfl
          have q20 : w9.cell? ⟨g2, 0, none⟩ = some (.int .i64 N2) := (blk_cell HQ2.out 0).trans rfl
          have q21 : w9.cell? ⟨g2, 1, none⟩ = some (.slice A3 L2.length c3) := (blk_cell HQ2.out 1).trans rfl
          have qf0 := blk_frozen HQ1.out 0
          have qf1 := blk_frozen HQ1.out 1
          have qg0 := blk_frozen HQ2.out 0
          have qg1 := blk_frozen HQ2.out 1
          have s0 : w9.cell? ⟨gs, 0, none⟩ = some (.slice none 0 0) := (blk_cell HS.out 0).trans rfl
          have s1 : w9.cell? ⟨gs, 1, none⟩ = some (.slice none 0 0) := (blk_cell HS.out 1).trans rfl
          have p0 : w9.cell? ⟨gp, 0, none⟩ = some (.int .i64 0) := (blk_cell HPp.out 0).trans rfl
          have p1 : w9.cell? ⟨gp, 1, none⟩ = some (.int .i64 0) := (blk_cell HPp.out 1).trans rfl
          have sf0 := blk_frozen HS.out 0
          have sf1 := blk_frozen HS.out 1
          have pf0 := blk_frozen HPp.out 0
          have pf1 := blk_frozen HPp.out 1
          go_wp2_with fail
          refine bodyPost_ret (results_cc rfl _ _ gs gp 24 34 #[.slice B1 (expL x).length k1, .slice B3 (expL y).length k3] #[.int .i64 0, .int .i64 0] (0, 0) (0, 0) _ _ rfl (blk_far (blk_far (blk_put (cs := #[.slice B1 (expL x).length k1, .slice none 0 0]) (blk_put (cs := #[.slice none 0 0, .slice none 0 0]) (blk_far (blk_far (blk_far (blk_far HS.out n3 _) n3 _) n6 _) n6 _) 0 _ rfl) 1 _ rfl) HNe.out _) HNe.out _) Tryd.underlying24 rfl (by kernel_rfl) rfl (blk_put (cs := #[.int .i64 0, .int .i64 0]) (blk_put (cs := #[.int .i64 0, .int .i64 0]) (blk_far (blk_far (blk_far (blk_far (blk_far (blk_far HPp.out n4 _) n4 _) n7 _) n7 _) HNe.out.symm _) HNe.out.symm _) 0 _ rfl) 1 _ rfl) Tryd.underlying34 rfl (by kernel_rfl)) rfl ?_
          exact ⟨_, _, rfl, (Kd.R_mono (Kd.R_far (p := ⟨gp, 1, none⟩) (Kd.R_far (p := ⟨gp, 0, none⟩) (Kd.R_far (p := ⟨gs, 1, none⟩) (Kd.R_far (p := ⟨gs, 0, none⟩) (Kd.R_far (p := ⟨g2, 1, none⟩) (Kd.R_far (p := ⟨g2, 0, none⟩) (Kd.R_far (p := ⟨g1, 1, none⟩) (Kd.R_far (p := ⟨g1, 0, none⟩) (Kd.R_types (Kd.R_types (Kd.R_types (Kd.R_types HO1.out HQ1.out (by decide)) HQ2.out (by decide)) HS.out (by decide)) HPp.out (by decide)) (fun _ hk => hk.1.1.1.2) _) (fun _ hk => hk.1.1.1.2) _) (fun _ hk => hk.1.1.2) _) (fun _ hk => hk.1.1.2) _) (fun _ hk => hk.1.2) _) (fun _ hk => hk.1.2) _) (fun _ hk => hk.2) _) (fun _ hk => hk.2) _) (fun _ hk => trivial)), (Kd.R_mono (Kd.R_far (p := ⟨gp, 1, none⟩) (Kd.R_far (p := ⟨gp, 0, none⟩) (Kd.R_far (p := ⟨gs, 1, none⟩) (Kd.R_far (p := ⟨gs, 0, none⟩) (Kd.R_far (p := ⟨g2, 1, none⟩) (Kd.R_far (p := ⟨g2, 0, none⟩) (Kd.R_far (p := ⟨g1, 1, none⟩) (Kd.R_far (p := ⟨g1, 0, none⟩) (Kd.R_types (Kd.R_types (Kd.R_types (Kd.R_types HO3.out HQ1.out (by decide)) HQ2.out (by decide)) HS.out (by decide)) HPp.out (by decide)) (fun _ hk => hk.1.1.1.2) _) (fun _ hk => hk.1.1.1.2) _) (fun _ hk => hk.1.1.2) _) (fun _ hk => hk.1.1.2) _) (fun _ hk => hk.1.2) _) (fun _ hk => hk.1.2) _) (fun _ hk => hk.2) _) (fun _ hk => hk.2) _) (fun _ hk => hk.1.1.1.1)), ((((((((HB9.out.setCell (p := ⟨g1, 0, none⟩) (Nat.le_trans (below_size HBw.out) HGg1.out) _).setCell (p := ⟨g1, 1, none⟩) (Nat.le_trans (below_size HBw.out) HGg1.out) _).setCell (p := ⟨g2, 0, none⟩) (Nat.le_trans (below_size HBw.out) HGg2.out) _).setCell (p := ⟨g2, 1, none⟩) (Nat.le_trans (below_size HBw.out) HGg2.out) _).setCell (p := ⟨gs, 0, none⟩) HGs.out _).setCell (p := ⟨gs, 1, none⟩) HGs.out _).setCell (p := ⟨gp, 0, none⟩) HGp.out _).setCell (p := ⟨gp, 1, none⟩) HGp.out _)⟩
end Go.Proofs.YtjlbimnafbngaaaDoor.Dec
