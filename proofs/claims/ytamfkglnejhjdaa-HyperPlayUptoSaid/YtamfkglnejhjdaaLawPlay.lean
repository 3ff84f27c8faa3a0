/- The law HyperPlay: what it answers. -/
import Derived.Test.YtamfkglnejhjdaaBaseC
import Derived.Test.YtamfkglnejhjdaaPurePlay
import Derived.Test.YtamfkglnejhjdaaRefPlay
namespace Go.Proofs.Ytamfkglnejhjdaa.HLaw
open Go.RowKit Go.Proofs.YtamfkglnejhjdaaW.PrintWords Go.Proofs.YtamfkglnejhjdaaW.PrintLast Go.Proofs.YtamfkglnejhjdaaW.PrintMore Go.Proofs.Ytamfkglnejhjdaa.PHyperSerial Go.Proofs.Ytamfkglnejhjdaa.Kinds
open Go.Proofs.Ytamfkglnejhjdaa.PlayState (playF PEnd play_walk)
open Go.Proofs.Ytamfkglnejhjdaa.Ref (REnd refplay_calls)
set_option linter.unusedVariables false
set_option linter.unusedSimpArgs false
set_option maxHeartbeats 16000000 in
set_option maxRecDepth 100000 in
theorem hplay_calls (A0 : Option Addr) (c0 : Nat) (l0 : List S46) (A1 : Option Addr) (c1 : Nat) (l1 : List Bool) (A2 : Option Addr) (c2 : Nat) (l2 : List Int) (w : World) (h00 : Kd.C k46 w A0 l0.length l0) (h01 : l0.length ≤ c0) (h10 : Kd.C Kd.bool w A1 l1.length l1) (h11 : l1.length ≤ c1) (h20 : Kd.C (Kd.int .i64) w A2 l2.length l2) (h21 : l2.length ≤ c2)
    (b0 : l0.length ≤ 1048576) (b1 : l1.length ≤ 1048576) (b2 : l2.length ≤ 1048576) :
    Calls Try.prog 4 #[.agg #[.slice A0 l0.length c0, .slice A1 l1.length c1, .slice A2 l2.length c2]] w fun e w' => e = .returned (.bool true) ∧ Below w.heap.size w w' := by
  have hu26 := Try.underlying26
  have hu39 := Try.underlying39
  have H0 := Aside0.mk (And.intro h00 h01)
  have H1 := Aside0.mk (And.intro h10 h11)
  have H2 := Aside0.mk (And.intro h20 h21)
  have HBo := Aside0.mk (And.intro b0 (And.intro b1 b2))
  clear h00 h01 h10 h11 h20 h21 b0 b1 b2
  go_enter Try.func4, Try.ntmps4
  go_wp2_with ((with_reducible refine gate_dst (N := 1) rfl ?_); refine box_event ?hg (N := 1) ?hd (cs := #[.slice A0 l0.length c0, .slice A1 l1.length c1, .slice A2 l2.length c2]) (t := 26) ?hr ?_; (case hd => rfl); (case hg => rfl); (case hr => first | (go_simp; done) | (go_simp; rfl)); intro gb hg w1 hbox hb; have HGB := Aside0.mk (show w.heap.size ≤ gb from by rw [hg]; exact Nat.le_refl _); have HB := Aside0.mk hb; have BK := Aside0.mk hbox; clear hb hbox hg; have x0 : w1.cell? ⟨gb, 0, none⟩ = some (.slice A0 l0.length c0) := (blk_cell BK.out 0).trans rfl; have x1 : w1.cell? ⟨gb, 1, none⟩ = some (.slice A1 l1.length c1) := (blk_cell BK.out 1).trans rfl; have x2 : w1.cell? ⟨gb, 2, none⟩ = some (.slice A2 l2.length c2) := (blk_cell BK.out 2).trans rfl)
  refine (plunderlaw23_copied.calls A0 c0 l0 A1 c1 l1 A2 c2 l2 l0 l1 l2 w1 (Kd.C_below H0.out.1 HB.out) H0.out.2 (Kd.C_below H1.out.1 HB.out) H1.out.2 (Kd.C_below H2.out.1 HB.out) H2.out.2 (Base.copied_f l0 l1 l2 (by have := HBo.out; omega) (by have := HBo.out; omega) (by have := HBo.out; omega))).mono ?_
  rintro e w2 ⟨v0, v1, v2, rfl, ho0, ho1, ho2, hb⟩
  obtain ⟨D0, d0, rfl⟩ := Kd.R_slice ho0
  obtain ⟨D1, d1, rfl⟩ := Kd.R_slice ho1
  obtain ⟨D2, d2, rfl⟩ := Kd.R_slice ho2
  have BK2 := Aside0.mk (blk_below BK.out hb)
  have HB2 := Aside0.mk (below_step HB.out hb)
  have HO0 := Aside0.mk ho0
  have HO1 := Aside0.mk ho1
  have HO2 := Aside0.mk ho2
  have HL1 := Aside0.mk (And.intro (below_size HB.out) (below_size hb))
  clear ho0 ho1 ho2 hb x0 x1 x2 BK HB
  have x0 : w2.cell? ⟨gb, 0, none⟩ = some (.slice A0 l0.length c0) := (blk_cell BK2.out 0).trans rfl
  have x1 : w2.cell? ⟨gb, 1, none⟩ = some (.slice A1 l1.length c1) := (blk_cell BK2.out 1).trans rfl
  have x2 : w2.cell? ⟨gb, 2, none⟩ = some (.slice A2 l2.length c2) := (blk_cell BK2.out 2).trans rfl
  go_wp2_with ((with_reducible refine gate_dst (N := 3) rfl ?_); refine box_event ?hg (N := 3) ?hd (cs := #[.slice none 0 0, .slice none 0 0, .slice none 0 0]) (t := 26) ?hr ?_; (case hd => rfl); (case hg => rfl); (case hr => first | (go_simp; done) | (go_simp; rfl)); intro gc hg w3 hbox hb; have hne : gb ≠ gc := (by rw [hg]; exact Nat.ne_of_lt (blk_lt BK2.out)); have hne2 : gc ≠ gb := fun e => hne e.symm; have HBc := Aside0.mk hb; have BKc := Aside0.mk hbox; have HGc := Aside0.mk hg; have BK3 := Aside0.mk (blk_below BK2.out hb); clear hb hbox hg x0 x1 x2; have x0 : w3.cell? ⟨gb, 0, none⟩ = some (.slice A0 l0.length c0) := (blk_cell BK3.out 0).trans rfl; have x1 : w3.cell? ⟨gb, 1, none⟩ = some (.slice A1 l1.length c1) := (blk_cell BK3.out 1).trans rfl; have x2 : w3.cell? ⟨gb, 2, none⟩ = some (.slice A2 l2.length c2) := (blk_cell BK3.out 2).trans rfl; have y0 : w3.cell? ⟨gc, 0, none⟩ = some (.slice none 0 0) := (blk_cell BKc.out 0).trans rfl; have y1 : w3.cell? ⟨gc, 1, none⟩ = some (.slice none 0 0) := (blk_cell BKc.out 1).trans rfl; have y2 : w3.cell? ⟨gc, 2, none⟩ = some (.slice none 0 0) := (blk_cell BKc.out 2).trans rfl; have yz0 := blk_frozen BKc.out 0; have yz1 := blk_frozen BKc.out 1; have yz2 := blk_frozen BKc.out 2)
  have HGc2 := Aside0.mk (show w2.heap.size ≤ gc from by rw [HGc.out]; exact Nat.le_refl _)
  have hB4 : Below w2.heap.size w2 (((w3.setCell ⟨gc, 0, none⟩ (.slice D0 l0.length d0)).setCell ⟨gc, 1, none⟩ (.slice D1 l1.length d1)).setCell ⟨gc, 2, none⟩ (.slice D2 l2.length d2)) := (((HBc.out.setCell (p := ⟨gc, 0, none⟩) HGc2.out _).setCell (p := ⟨gc, 1, none⟩) HGc2.out _).setCell (p := ⟨gc, 2, none⟩) HGc2.out _)
  have hC4 : (((w3.setCell ⟨gc, 0, none⟩ (.slice D0 l0.length d0)).setCell ⟨gc, 1, none⟩ (.slice D1 l1.length d1)).setCell ⟨gc, 2, none⟩ (.slice D2 l2.length d2)).heap[gc]? = some (.cells #[.slice D0 l0.length d0, .slice D1 l1.length d1, .slice D2 l2.length d2] 26 (0, 0)) := (blk_put (cs := #[.slice D0 l0.length d0, .slice D1 l1.length d1, .slice none 0 0]) (blk_put (cs := #[.slice D0 l0.length d0, .slice none 0 0, .slice none 0 0]) (blk_put (cs := #[.slice none 0 0, .slice none 0 0, .slice none 0 0]) BKc.out 0 _ rfl) 1 _ rfl) 2 _ rfl)
  have HB4 := Aside0.mk hB4
  have BC4 := Aside0.mk hC4
  clear x0 x1 x2 y0 y1 y2 yz0 yz1 yz2 hB4 hC4 hne hne2 BKc BK3 HBc
  generalize (((w3.setCell ⟨gc, 0, none⟩ (.slice D0 l0.length d0)).setCell ⟨gc, 1, none⟩ (.slice D1 l1.length d1)).setCell ⟨gc, 2, none⟩ (.slice D2 l2.length d2)) = w4 at HB4 BC4 ⊢
  have HBw4 := Aside0.mk (below_step HB2.out HB4.out)
  refine (play_walk A0 c0 l0 A1 c1 l1 A2 c2 l2 w4 (Kd.C_below H0.out.1 HBw4.out) H0.out.2 (Kd.C_below H1.out.1 HBw4.out) H1.out.2 (Kd.C_below H2.out.1 HBw4.out) H2.out.2).mono ?_
  rintro e w5 ⟨u0, u2, u3, rfl, hu0, hu2, hu3, hb⟩
  obtain ⟨⟨r1, r2, r3, r4, r5⟩, hr⟩ : ∃ r, playF l0 l1 l2 = r := ⟨_, rfl⟩
  have HR := Aside0.mk hr
  rw [hr] at hu0 hu2 hu3 ⊢
  replace hu3 := Kd.S_R hu3
  dsimp only at hu0 hu2 hu3 ⊢
  obtain ⟨P0, p0, rfl⟩ := Kd.R_slice hu0
  obtain ⟨P2, p2, rfl⟩ := Kd.R_slice hu2
  obtain ⟨P3, p3, rfl⟩ := Kd.R_slice hu3
  have HP0 := Aside0.mk (And.intro (Kd.R_reads' hu0).2.1 (Kd.R_reads' hu0).2.2)
  have HP2 := Aside0.mk (And.intro (Kd.R_reads' hu2).2.1 (Kd.R_reads' hu2).2.2)
  have HP3 := Aside0.mk (And.intro (Kd.R_reads' hu3).2.1 (Kd.R_reads' hu3).2.2)
  have HB5 := Aside0.mk (below_step HB4.out hb)
  have BC5 := Aside0.mk (blk_below BC4.out hb)
  have HLe := Aside0.mk (below_size hb)
  clear hu0 hu2 hu3 hb hr HBw4
  have BK5 := Aside0.mk (blk_below BK2.out HB5.out)
  have x0 : w5.cell? ⟨gb, 0, none⟩ = some (.slice A0 l0.length c0) := (blk_cell BK5.out 0).trans rfl
  have x1 : w5.cell? ⟨gb, 1, none⟩ = some (.slice A1 l1.length c1) := (blk_cell BK5.out 1).trans rfl
  have x2 : w5.cell? ⟨gb, 2, none⟩ = some (.slice A2 l2.length c2) := (blk_cell BK5.out 2).trans rfl
  have y0 : w5.cell? ⟨gc, 0, none⟩ = some (.slice D0 l0.length d0) := (blk_cell BC5.out 0).trans rfl
  have y1 : w5.cell? ⟨gc, 1, none⟩ = some (.slice D1 l1.length d1) := (blk_cell BC5.out 1).trans rfl
  have y2 : w5.cell? ⟨gc, 2, none⟩ = some (.slice D2 l2.length d2) := (blk_cell BC5.out 2).trans rfl
  go_wp2_with ((with_reducible refine gate_dst (N := 4) rfl ?_); refine box_event ?hg (N := 4) ?hd (cs := #[.slice none 0 0, .int .i64 0, .slice none 0 0, .slice none 0 0]) (t := 39) ?hr ?_; (case hd => rfl); (case hg => rfl); (case hr => first | (go_simp; done) | (go_simp; rfl)); intro gd hg w6 hbox hb; have hne1 : gb ≠ gd := (by rw [hg]; exact Nat.ne_of_lt (blk_lt BK5.out)); have hne2 : gc ≠ gd := (by rw [hg]; exact Nat.ne_of_lt (blk_lt BC5.out)); have HBd := Aside0.mk hb; have BKd := Aside0.mk hbox; have HGd := Aside0.mk (show w5.heap.size ≤ gd from by rw [hg]; exact Nat.le_refl _); have BK6 := Aside0.mk (blk_below BK5.out hb); have BC6 := Aside0.mk (blk_below BC5.out hb); clear hb hbox hg x0 x1 x2 y0 y1 y2; have x0 : w6.cell? ⟨gb, 0, none⟩ = some (.slice A0 l0.length c0) := (blk_cell BK6.out 0).trans rfl; have x1 : w6.cell? ⟨gb, 1, none⟩ = some (.slice A1 l1.length c1) := (blk_cell BK6.out 1).trans rfl; have x2 : w6.cell? ⟨gb, 2, none⟩ = some (.slice A2 l2.length c2) := (blk_cell BK6.out 2).trans rfl; have y0 : w6.cell? ⟨gc, 0, none⟩ = some (.slice D0 l0.length d0) := (blk_cell BC6.out 0).trans rfl; have y1 : w6.cell? ⟨gc, 1, none⟩ = some (.slice D1 l1.length d1) := (blk_cell BC6.out 1).trans rfl; have y2 : w6.cell? ⟨gc, 2, none⟩ = some (.slice D2 l2.length d2) := (blk_cell BC6.out 2).trans rfl; have z0 : w6.cell? ⟨gd, 0, none⟩ = some (.slice none 0 0) := (blk_cell BKd.out 0).trans rfl; have z1 : w6.cell? ⟨gd, 1, none⟩ = some (.int .i64 0) := (blk_cell BKd.out 1).trans rfl; have z2 : w6.cell? ⟨gd, 2, none⟩ = some (.slice none 0 0) := (blk_cell BKd.out 2).trans rfl; have z3 : w6.cell? ⟨gd, 3, none⟩ = some (.slice none 0 0) := (blk_cell BKd.out 3).trans rfl; have zz0 := blk_frozen BKd.out 0; have zz1 := blk_frozen BKd.out 1; have zz2 := blk_frozen BKd.out 2; have zz3 := blk_frozen BKd.out 3)
  have hB7 : Below w5.heap.size w5 ((((w6.setCell ⟨gd, 0, none⟩ (.slice P0 r1.length p0)).setCell ⟨gd, 1, none⟩ (.int .i64 r2)).setCell ⟨gd, 2, none⟩ (.slice P2 r3.length p2)).setCell ⟨gd, 3, none⟩ (.slice P3 r4.length p3)) := ((((HBd.out.setCell (p := ⟨gd, 0, none⟩) HGd.out _).setCell (p := ⟨gd, 1, none⟩) HGd.out _).setCell (p := ⟨gd, 2, none⟩) HGd.out _).setCell (p := ⟨gd, 3, none⟩) HGd.out _)
  have hC7 : ((((w6.setCell ⟨gd, 0, none⟩ (.slice P0 r1.length p0)).setCell ⟨gd, 1, none⟩ (.int .i64 r2)).setCell ⟨gd, 2, none⟩ (.slice P2 r3.length p2)).setCell ⟨gd, 3, none⟩ (.slice P3 r4.length p3)).heap[gd]? = some (.cells #[.slice P0 r1.length p0, .int .i64 r2, .slice P2 r3.length p2, .slice P3 r4.length p3] 39 (0, 0)) := (blk_put (cs := #[.slice P0 r1.length p0, .int .i64 r2, .slice P2 r3.length p2, .slice none 0 0]) (blk_put (cs := #[.slice P0 r1.length p0, .int .i64 r2, .slice none 0 0, .slice none 0 0]) (blk_put (cs := #[.slice P0 r1.length p0, .int .i64 0, .slice none 0 0, .slice none 0 0]) (blk_put (cs := #[.slice none 0 0, .int .i64 0, .slice none 0 0, .slice none 0 0]) BKd.out 0 _ rfl) 1 _ rfl) 2 _ rfl) 3 _ rfl)
  have HB7 := Aside0.mk hB7
  have BD7 := Aside0.mk hC7
  clear x0 x1 x2 y0 y1 y2 z0 z1 z2 z3 zz0 zz1 zz2 zz3 hB7 hC7 hne1 hne2 BKd BK6 BC6 HBd
  generalize ((((w6.setCell ⟨gd, 0, none⟩ (.slice P0 r1.length p0)).setCell ⟨gd, 1, none⟩ (.int .i64 r2)).setCell ⟨gd, 2, none⟩ (.slice P2 r3.length p2)).setCell ⟨gd, 3, none⟩ (.slice P3 r4.length p3)) = w7 at HB7 BD7 ⊢
  have HBx7 := Aside0.mk (below_step HB5.out HB7.out)
  refine (refplay_calls D0 d0 l0 D1 d1 l1 D2 d2 l2 w7 (Kd.C_below (Kd.R_reads' HO0.out).2.2 HBx7.out) (Kd.R_reads' HO0.out).2.1 (Kd.C_below (Kd.R_reads' HO1.out).2.2 HBx7.out) (Kd.R_reads' HO1.out).2.1 (Kd.C_below (Kd.R_reads' HO2.out).2.2 HBx7.out) (Kd.R_reads' HO2.out).2.1).mono ?_
  rintro e w8 ⟨u0, u2, u3, rfl, hu0, hu2, hu3, hb⟩
  rw [HR.out] at hu0 hu2 hu3 ⊢
  dsimp only at hu0 hu2 hu3 ⊢
  obtain ⟨Q0, q0, rfl⟩ := Kd.R_slice hu0
  obtain ⟨Q2, q2, rfl⟩ := Kd.R_slice hu2
  obtain ⟨Q3, q3, rfl⟩ := Kd.R_slice hu3
  have HQ0 := Aside0.mk (And.intro (Kd.R_reads' hu0).2.1 (Kd.R_reads' hu0).2.2)
  have HQ2 := Aside0.mk (And.intro (Kd.R_reads' hu2).2.1 (Kd.R_reads' hu2).2.2)
  have HQ3 := Aside0.mk (And.intro (Kd.R_reads' hu3).2.1 (Kd.R_reads' hu3).2.2)
  have HB8 := Aside0.mk (below_step HB7.out hb)
  have BD8 := Aside0.mk (blk_below BD7.out hb)
  clear hu0 hu2 hu3 hb HBx7 HB7 BD7
  have z0 : w8.cell? ⟨gd, 0, none⟩ = some (.slice P0 r1.length p0) := (blk_cell BD8.out 0).trans rfl
  have z1 : w8.cell? ⟨gd, 1, none⟩ = some (.int .i64 r2) := (blk_cell BD8.out 1).trans rfl
  have z2 : w8.cell? ⟨gd, 2, none⟩ = some (.slice P2 r3.length p2) := (blk_cell BD8.out 2).trans rfl
  have z3 : w8.cell? ⟨gd, 3, none⟩ = some (.slice P3 r4.length p3) := (blk_cell BD8.out 3).trans rfl
  go_wp2_with ((with_reducible refine gate_dst (N := 6) rfl ?_); refine box_event ?hg (N := 6) ?hd (cs := #[.slice none 0 0, .int .i64 0, .slice none 0 0, .slice none 0 0]) (t := 39) ?hr ?_; (case hd => rfl); (case hg => rfl); (case hr => first | (go_simp; done) | (go_simp; rfl)); intro ge hg w9 hbox hb; have hne1 : gd ≠ ge := (by rw [hg]; exact Nat.ne_of_lt (blk_lt BD8.out)); have HBe := Aside0.mk hb; have BKe := Aside0.mk hbox; have HGe := Aside0.mk (show w8.heap.size ≤ ge from by rw [hg]; exact Nat.le_refl _); have BD9 := Aside0.mk (blk_below BD8.out hb); clear hb hbox hg z0 z1 z2 z3; have z0 : w9.cell? ⟨gd, 0, none⟩ = some (.slice P0 r1.length p0) := (blk_cell BD9.out 0).trans rfl; have z1 : w9.cell? ⟨gd, 1, none⟩ = some (.int .i64 r2) := (blk_cell BD9.out 1).trans rfl; have z2 : w9.cell? ⟨gd, 2, none⟩ = some (.slice P2 r3.length p2) := (blk_cell BD9.out 2).trans rfl; have z3 : w9.cell? ⟨gd, 3, none⟩ = some (.slice P3 r4.length p3) := (blk_cell BD9.out 3).trans rfl; have y0 : w9.cell? ⟨ge, 0, none⟩ = some (.slice none 0 0) := (blk_cell BKe.out 0).trans rfl; have y1 : w9.cell? ⟨ge, 1, none⟩ = some (.int .i64 0) := (blk_cell BKe.out 1).trans rfl; have y2 : w9.cell? ⟨ge, 2, none⟩ = some (.slice none 0 0) := (blk_cell BKe.out 2).trans rfl; have y3 : w9.cell? ⟨ge, 3, none⟩ = some (.slice none 0 0) := (blk_cell BKe.out 3).trans rfl; have yz0 := blk_frozen BKe.out 0; have yz1 := blk_frozen BKe.out 1; have yz2 := blk_frozen BKe.out 2; have yz3 := blk_frozen BKe.out 3)
  have hB10 : Below w8.heap.size w8 ((((w9.setCell ⟨ge, 0, none⟩ (.slice Q0 r1.length q0)).setCell ⟨ge, 1, none⟩ (.int .i64 r2)).setCell ⟨ge, 2, none⟩ (.slice Q2 r3.length q2)).setCell ⟨ge, 3, none⟩ (.slice Q3 r4.length q3)) := ((((HBe.out.setCell (p := ⟨ge, 0, none⟩) HGe.out _).setCell (p := ⟨ge, 1, none⟩) HGe.out _).setCell (p := ⟨ge, 2, none⟩) HGe.out _).setCell (p := ⟨ge, 3, none⟩) HGe.out _)
  have HB10 := Aside0.mk hB10
  clear hB10 z0 z1 z2 z3 y0 y1 y2 y3 yz0 yz1 yz2 yz3 hne1 BKe BD9 HBe
  generalize ((((w9.setCell ⟨ge, 0, none⟩ (.slice Q0 r1.length q0)).setCell ⟨ge, 1, none⟩ (.int .i64 r2)).setCell ⟨ge, 2, none⟩ (.slice Q2 r3.length q2)).setCell ⟨ge, 3, none⟩ (.slice Q3 r4.length q3)) = w10 at HB10 ⊢
  have HBp := Aside0.mk (below_step HB8.out HB10.out)
  refine (plunderlaw23_sameViews.calls 40000 P0 p0 r1 r2 P2 p2 r3 P3 p3 r4 Q0 q0 r1 r2 Q2 q2 r3 Q3 q3 r4 true w10 (Kd.C_below HP0.out.2 HBp.out) HP0.out.1 (Kd.C_below HP2.out.2 HBp.out) HP2.out.1 (Kd.C_below HP3.out.2 HBp.out) HP3.out.1 (Kd.C_below HQ0.out.2 HB10.out) HQ0.out.1 (Kd.C_below HQ2.out.2 HB10.out) HQ2.out.1 (Kd.C_below HQ3.out.2 HB10.out) HQ3.out.1 (by have h := play_same l0 l1 l2; rw [HR.out] at h; exact h)).mono ?_
  rintro e w11 ⟨rfl, hb⟩
  have HB11 := Aside0.mk (below_step HB5.out (below_step HBp.out hb))
  have BC11 := Aside0.mk (blk_below BC5.out (below_step HBp.out hb))
  have BK11 := Aside0.mk (blk_below BK2.out HB11.out)
  clear hb HB10 HB8 HBp BC5 BK5 BK2 BD8
  have x0 : w11.cell? ⟨gb, 0, none⟩ = some (.slice A0 l0.length c0) := (blk_cell BK11.out 0).trans rfl
  have x1 : w11.cell? ⟨gb, 1, none⟩ = some (.slice A1 l1.length c1) := (blk_cell BK11.out 1).trans rfl
  have x2 : w11.cell? ⟨gb, 2, none⟩ = some (.slice A2 l2.length c2) := (blk_cell BK11.out 2).trans rfl
  have y0 : w11.cell? ⟨gc, 0, none⟩ = some (.slice D0 l0.length d0) := (blk_cell BC11.out 0).trans rfl
  have y1 : w11.cell? ⟨gc, 1, none⟩ = some (.slice D1 l1.length d1) := (blk_cell BC11.out 1).trans rfl
  have y2 : w11.cell? ⟨gc, 2, none⟩ = some (.slice D2 l2.length d2) := (blk_cell BC11.out 2).trans rfl
  go_wp2_with fail
  have HBw := Aside0.mk (below_step HB2.out HB11.out)
  refine (plunderlaw23_same.calls 9000000 A0 c0 l0 A1 c1 l1 A2 c2 l2 D0 d0 l0 D1 d1 l1 D2 d2 l2 true w11 (Kd.C_below H0.out.1 HBw.out) H0.out.2 (Kd.C_below H1.out.1 HBw.out) H1.out.2 (Kd.C_below H2.out.1 HBw.out) H2.out.2 (Kd.C_below (Kd.R_reads' HO0.out).2.2 HB11.out) (Kd.R_reads' HO0.out).2.1 (Kd.C_below (Kd.R_reads' HO1.out).2.2 HB11.out) (Kd.R_reads' HO1.out).2.1 (Kd.C_below (Kd.R_reads' HO2.out).2.2 HB11.out) (Kd.R_reads' HO2.out).2.1 (Base.same_f l0 l1 l2 (by have := HBo.out; omega) (by have := HBo.out; omega) (by have := HBo.out; omega) 9000000 (by have := HBo.out; omega))).mono ?_
  rintro e w12 ⟨rfl, hb⟩
  have HB12 := Aside0.mk (below_step HBw.out hb)
  clear hb HBw HB11 BC11 BK11
  go_wp2
  go_ret
  exact ⟨rfl, HB12.out⟩
end Go.Proofs.Ytamfkglnejhjdaa.HLaw
