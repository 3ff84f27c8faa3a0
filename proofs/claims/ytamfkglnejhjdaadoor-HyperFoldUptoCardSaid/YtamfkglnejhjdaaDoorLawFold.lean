/- The law HyperFold: what it answers. -/
import Derived.Test.YtamfkglnejhjdaaDoorBaseC
import Derived.Test.YtamfkglnejhjdaaDoorBaseR
import Derived.Test.YtamfkglnejhjdaaDoorPlayFold
import Derived.OpenShut
namespace Go.Proofs.YtamfkglnejhjdaaDoor.HLaw
open Go.RowKit Go.Proofs.YtamfkglnejhjdaaDoorW.PrintWords Go.Proofs.YtamfkglnejhjdaaDoorW.PrintLast Go.Proofs.YtamfkglnejhjdaaDoorW.PrintMore Go.Proofs.YtamfkglnejhjdaaDoor.PHyperFold Go.Proofs.YtamfkglnejhjdaaDoor.BitMath Go.Proofs.YtamfkglnejhjdaaDoor.Tab
open Go.Proofs.YtamfkglnejhjdaaDoor.PlayState (hfold_calls)
open Go.Proofs.YtamfkglnejhjdaaDoor.Ref (reffold_calls foldV)
set_option linter.unusedVariables false
set_option linter.unusedSimpArgs false
/-- over writes numbers that are numbers of 64 bits. -/
theorem over2_keeps (a : List S46) (b : List Bool) : ∀ (k : Nat) (c : List Int) (i : Int) (n : Int) (a' : List S46) (b' : List Bool) (c' : List Int), plunderlaw23_over.l2 k i a b c = some (n, a', b', c') → a' = a := by
  intro k
  induction k with
  | zero => intro c i n a' b' c' h; simp [plunderlaw23_over.l2] at h
  | succ k ih =>
    intro c i n a' b' c' h
    simp only [plunderlaw23_over.l2] at h
    split at h
    · split at h
      · exact ih _ _ _ _ _ _ h
      · simp at h
    · simp at h
      exact h.2.1.symm
theorem over1_keeps (a : List S46) : ∀ (k : Nat) (b : List Bool) (c : List Int) (i : Int) (n : Int) (a' : List S46) (b' : List Bool) (c' : List Int), plunderlaw23_over.l1 k i a b c = some (n, a', b', c') → a' = a := by
  intro k
  induction k with
  | zero => intro b c i n a' b' c' h; simp [plunderlaw23_over.l1] at h
  | succ k ih =>
    intro b c i n a' b' c' h
    simp only [plunderlaw23_over.l1] at h
    split at h
    · split at h
      · exact ih _ _ _ _ _ _ _ h
      · simp at h
    · exact over2_keeps _ _ _ _ _ _ _ _ _ h
theorem bits_in (x y : Int) : In64 (Go.bits .xor .i64 x y) := in64_of_wf (Go.wf_bits .xor .i64 x y)
theorem over0_in : ∀ (k : Nat) (a : List S46) (b : List Bool) (c : List Int) (i : Int) (n : Int) (a' : List S46) (b' : List Bool) (c' : List Int), (∀ d, d ∈ a → In64 d.f1) → plunderlaw23_over.l0 k i a b c = some (n, a', b', c') → ∀ d, d ∈ a' → In64 d.f1 := by
  intro k
  induction k with
  | zero => intro a b c i n a' b' c' hI h; simp [plunderlaw23_over.l0] at h
  | succ k ih =>
    intro a b c i n a' b' c' hI h
    simp only [plunderlaw23_over.l0] at h
    split at h
    · split at h
      · refine ih _ _ _ _ _ _ _ _ ?_ h
        intro d hd
        rcases List.mem_or_eq_of_mem_set hd with hd | hd
        · exact hI d hd
        · rw [hd]
          exact bits_in _ _
      · simp at h
    · have := over1_keeps _ _ _ _ _ _ _ _ _ h
      subst this
      exact hI
set_option maxHeartbeats 16000000 in
set_option maxRecDepth 100000 in
theorem hfoldlaw_calls (op : Int) (A0 : Option Addr) (c0 : Nat) (l0 : List S46) (A1 : Option Addr) (c1 : Nat) (l1 : List Bool) (A2 : Option Addr) (c2 : Nat) (l2 : List Int) (w : World) (h00 : Kd.C k46 w A0 l0.length l0) (h01 : l0.length ≤ c0) (h10 : Kd.C Kd.bool w A1 l1.length l1) (h11 : l1.length ≤ c1) (h20 : Kd.C (Kd.int .i64) w A2 l2.length l2) (h21 : l2.length ≤ c2)
    (b0 : l0.length ≤ 1048576) (b1 : l1.length ≤ 1048576) (b2 : l2.length ≤ 1048576) (hI : ∀ d, d ∈ l0 → In64 d.f1) (hUn : UnitsAt w) :
    Calls Tryd.prog 3 #[.int .i64 op, .agg #[.slice A0 l0.length c0, .slice A1 l1.length c1, .slice A2 l2.length c2]] w fun e w' => e = .returned (.bool true) ∧ Below w.heap.size w w' := by
  have hu26 := Tryd.underlying26
  have hu29 := Tryd.underlying29
  have H0 := Aside0.mk (And.intro h00 h01)
  have H1 := Aside0.mk (And.intro h10 h11)
  have H2 := Aside0.mk (And.intro h20 h21)
  have HBo := Aside0.mk (And.intro b0 (And.intro b1 b2))
  have HI := Aside0.mk hI
  have HUn := Aside0.mk hUn
  clear h00 h01 h10 h11 h20 h21 b0 b1 b2 hI hUn
  go_enter Tryd.func3, Tryd.ntmps3
  go_wp2_with ((with_reducible refine gate_dst (N := 3) rfl ?_); refine box_event ?hg (N := 3) ?hd (cs := #[.slice A0 l0.length c0, .slice A1 l1.length c1, .slice A2 l2.length c2]) (t := 26) ?hr ?_; (case hd => rfl); (case hg => rfl); (case hr => first | (go_simp; done) | (go_simp; rfl)); intro gb hg w1 hbox hb; have HB := Aside0.mk hb; have BK := Aside0.mk hbox; clear hb hbox hg; have x0 : w1.cell? ⟨gb, 0, none⟩ = some (.slice A0 l0.length c0) := (blk_cell BK.out 0).trans rfl; have x1 : w1.cell? ⟨gb, 1, none⟩ = some (.slice A1 l1.length c1) := (blk_cell BK.out 1).trans rfl; have x2 : w1.cell? ⟨gb, 2, none⟩ = some (.slice A2 l2.length c2) := (blk_cell BK.out 2).trans rfl)
  refine (plunderlaw23_copied.calls A0 c0 l0 A1 c1 l1 A2 c2 l2 l0 l1 l2 w1 (Kd.C_below H0.out.1 HB.out) H0.out.2 (Kd.C_below H1.out.1 HB.out) H1.out.2 (Kd.C_below H2.out.1 HB.out) H2.out.2 (Base.copied_f l0 l1 l2 (by have := HBo.out; omega) (by have := HBo.out; omega) (by have := HBo.out; omega))).mono ?_
  rintro e w2 ⟨v0, v1, v2, rfl, ho0, ho1, ho2, hb⟩
  obtain ⟨D0, d0, rfl⟩ := Kd.R_slice ho0
  obtain ⟨D1, d1, rfl⟩ := Kd.R_slice ho1
  obtain ⟨D2, d2, rfl⟩ := Kd.R_slice ho2
  have BK2 := Aside0.mk (blk_below BK.out hb)
  have HB2 := Aside0.mk (below_step HB.out hb)
  have HO0 := Aside0.mk (Kd.R_lower ho0 (below_size HB.out))
  have HO1 := Aside0.mk (Kd.R_lower ho1 (below_size HB.out))
  have HO2 := Aside0.mk (Kd.R_lower ho2 (below_size HB.out))
  clear ho0 ho1 ho2 hb x0 x1 x2 BK HB
  have x0 : w2.cell? ⟨gb, 0, none⟩ = some (.slice A0 l0.length c0) := (blk_cell BK2.out 0).trans rfl
  have x1 : w2.cell? ⟨gb, 1, none⟩ = some (.slice A1 l1.length c1) := (blk_cell BK2.out 1).trans rfl
  have x2 : w2.cell? ⟨gb, 2, none⟩ = some (.slice A2 l2.length c2) := (blk_cell BK2.out 2).trans rfl
  go_wp2_with ((with_reducible refine gate_dst (N := 5) rfl ?_); refine box_event ?hg (N := 5) ?hd (cs := #[.slice none 0 0, .slice none 0 0, .slice none 0 0]) (t := 26) ?hr ?_; (case hd => rfl); (case hg => rfl); (case hr => first | (go_simp; done) | (go_simp; rfl)); intro gc hg w3 hbox hb; have hne : gb ≠ gc := (by rw [hg]; exact Nat.ne_of_lt (blk_lt BK2.out)); have hne2 : gc ≠ gb := fun e => hne e.symm; have HBc := Aside0.mk hb; have BKc := Aside0.mk hbox; have HGc := Aside0.mk hg; have BK3 := Aside0.mk (blk_below BK2.out hb); clear hb hbox hg x0 x1 x2; have x0 : w3.cell? ⟨gb, 0, none⟩ = some (.slice A0 l0.length c0) := (blk_cell BK3.out 0).trans rfl; have x1 : w3.cell? ⟨gb, 1, none⟩ = some (.slice A1 l1.length c1) := (blk_cell BK3.out 1).trans rfl; have x2 : w3.cell? ⟨gb, 2, none⟩ = some (.slice A2 l2.length c2) := (blk_cell BK3.out 2).trans rfl; have y0 : w3.cell? ⟨gc, 0, none⟩ = some (.slice none 0 0) := (blk_cell BKc.out 0).trans rfl; have y1 : w3.cell? ⟨gc, 1, none⟩ = some (.slice none 0 0) := (blk_cell BKc.out 1).trans rfl; have y2 : w3.cell? ⟨gc, 2, none⟩ = some (.slice none 0 0) := (blk_cell BKc.out 2).trans rfl; have yz0 := blk_frozen BKc.out 0; have yz1 := blk_frozen BKc.out 1; have yz2 := blk_frozen BKc.out 2)
  have HGc2 := Aside0.mk (show w2.heap.size ≤ gc from by rw [HGc.out]; exact Nat.le_refl _)
  have hB4 : Below w2.heap.size w2 (((w3.setCell ⟨gc, 0, none⟩ (.slice D0 l0.length d0)).setCell ⟨gc, 1, none⟩ (.slice D1 l1.length d1)).setCell ⟨gc, 2, none⟩ (.slice D2 l2.length d2)) := (((HBc.out.setCell (p := ⟨gc, 0, none⟩) HGc2.out _).setCell (p := ⟨gc, 1, none⟩) HGc2.out _).setCell (p := ⟨gc, 2, none⟩) HGc2.out _)
  have hC4 : (((w3.setCell ⟨gc, 0, none⟩ (.slice D0 l0.length d0)).setCell ⟨gc, 1, none⟩ (.slice D1 l1.length d1)).setCell ⟨gc, 2, none⟩ (.slice D2 l2.length d2)).heap[gc]? = some (.cells #[.slice D0 l0.length d0, .slice D1 l1.length d1, .slice D2 l2.length d2] 26 (0, 0)) := (blk_put (cs := #[.slice D0 l0.length d0, .slice D1 l1.length d1, .slice none 0 0]) (blk_put (cs := #[.slice D0 l0.length d0, .slice none 0 0, .slice none 0 0]) (blk_put (cs := #[.slice none 0 0, .slice none 0 0, .slice none 0 0]) BKc.out 0 _ rfl) 1 _ rfl) 2 _ rfl)
  have HB4 := Aside0.mk hB4
  have BC4 := Aside0.mk hC4
  clear x0 x1 x2 y0 y1 y2 yz0 yz1 yz2 hB4 hC4 hne hne2 BKc BK3 HBc
  generalize (((w3.setCell ⟨gc, 0, none⟩ (.slice D0 l0.length d0)).setCell ⟨gc, 1, none⟩ (.slice D1 l1.length d1)).setCell ⟨gc, 2, none⟩ (.slice D2 l2.length d2)) = w4 at HB4 BC4 ⊢
  have HW4 := Aside0.mk (below_step HB2.out HB4.out)
  have HR0 := Aside0.mk (Kd.R_below HO0.out HB4.out)
  have HR1 := Aside0.mk (Kd.R_below HO1.out HB4.out)
  have HR2 := Aside0.mk (Kd.R_below HO2.out HB4.out)
  have BK4 := Aside0.mk (blk_below BK2.out HB4.out)
  clear HO0 HO1 HO2 HB2 HB4 BK2 HGc HGc2
  obtain ⟨⟨fv, fe⟩, hfv⟩ : ∃ r, foldV op l0 l1 l2 = r := ⟨_, rfl⟩
  have HFv := Aside0.mk hfv
  clear hfv
  have x0 : w4.cell? ⟨gb, 0, none⟩ = some (.slice A0 l0.length c0) := (blk_cell BK4.out 0).trans rfl
  have x1 : w4.cell? ⟨gb, 1, none⟩ = some (.slice A1 l1.length c1) := (blk_cell BK4.out 1).trans rfl
  have x2 : w4.cell? ⟨gb, 2, none⟩ = some (.slice A2 l2.length c2) := (blk_cell BK4.out 2).trans rfl
  go_wp2_with fail
  refine (hfold_calls op A0 c0 l0 A1 c1 l1 A2 c2 l2 w4 (Kd.C_below H0.out.1 HW4.out) H0.out.2 (Kd.C_below H1.out.1 HW4.out) H1.out.2 (Kd.C_below H2.out.1 HW4.out) H2.out.2 HI.out (HUn.out.below HW4.out)).mono ?_
  rintro e w5 ⟨rfl, hb⟩
  rw [HFv.out]
  dsimp only
  clear x0 x1 x2
  have HW5 := Aside0.mk (below_step HW4.out hb)
  have BK5 := Aside0.mk (blk_below BK4.out hb)
  have BC5 := Aside0.mk (blk_below BC4.out hb)
  replace HR0 := Aside0.mk (Kd.R_below HR0.out hb)
  replace HR1 := Aside0.mk (Kd.R_below HR1.out hb)
  replace HR2 := Aside0.mk (Kd.R_below HR2.out hb)
  clear hb HW4 BK4 BC4
  have y0 : w5.cell? ⟨gc, 0, none⟩ = some (.slice D0 l0.length d0) := (blk_cell BC5.out 0).trans rfl
  have y1 : w5.cell? ⟨gc, 1, none⟩ = some (.slice D1 l1.length d1) := (blk_cell BC5.out 1).trans rfl
  have y2 : w5.cell? ⟨gc, 2, none⟩ = some (.slice D2 l2.length d2) := (blk_cell BC5.out 2).trans rfl
  go_wp2_with fail
  refine (reffold_calls op D0 d0 l0 D1 d1 l1 D2 d2 l2 w5 (Kd.R_reads' HR0.out).2.2 (Kd.R_reads' HR0.out).2.1 (Kd.R_reads' HR1.out).2.2 (Kd.R_reads' HR1.out).2.1 (Kd.R_reads' HR2.out).2.2 (Kd.R_reads' HR2.out).2.1 HI.out (Base.refcheck_f _ 8200 (Nat.le_refl _))).mono ?_
  rintro e w6 ⟨rfl, hb⟩
  rw [HFv.out]
  dsimp only
  clear y0 y1 y2
  have HW6 := Aside0.mk (below_step HW5.out hb)
  have BK6 := Aside0.mk (blk_below BK5.out hb)
  have BC6 := Aside0.mk (blk_below BC5.out hb)
  replace HR0 := Aside0.mk (Kd.R_below HR0.out hb)
  replace HR1 := Aside0.mk (Kd.R_below HR1.out hb)
  replace HR2 := Aside0.mk (Kd.R_below HR2.out hb)
  clear hb HW5 BK5 BC5
  have x0 : w6.cell? ⟨gb, 0, none⟩ = some (.slice A0 l0.length c0) := (blk_cell BK6.out 0).trans rfl
  have x1 : w6.cell? ⟨gb, 1, none⟩ = some (.slice A1 l1.length c1) := (blk_cell BK6.out 1).trans rfl
  have x2 : w6.cell? ⟨gb, 2, none⟩ = some (.slice A2 l2.length c2) := (blk_cell BK6.out 2).trans rfl
  have y0 : w6.cell? ⟨gc, 0, none⟩ = some (.slice D0 l0.length d0) := (blk_cell BC6.out 0).trans rfl
  have y1 : w6.cell? ⟨gc, 1, none⟩ = some (.slice D1 l1.length d1) := (blk_cell BC6.out 1).trans rfl
  have y2 : w6.cell? ⟨gc, 2, none⟩ = some (.slice D2 l2.length d2) := (blk_cell BC6.out 2).trans rfl
  go_wp2_with fail
  refine (plunderlaw23_same.calls 9000000 A0 c0 l0 A1 c1 l1 A2 c2 l2 D0 d0 l0 D1 d1 l1 D2 d2 l2 true w6 (Kd.C_below H0.out.1 HW6.out) H0.out.2 (Kd.C_below H1.out.1 HW6.out) H1.out.2 (Kd.C_below H2.out.1 HW6.out) H2.out.2 (Kd.R_reads' HR0.out).2.2 (Kd.R_reads' HR0.out).2.1 (Kd.R_reads' HR1.out).2.2 (Kd.R_reads' HR1.out).2.1 (Kd.R_reads' HR2.out).2.2 (Kd.R_reads' HR2.out).2.1 (Base.same_f l0 l1 l2 (by have := HBo.out; omega) (by have := HBo.out; omega) (by have := HBo.out; omega) 9000000 (by have := HBo.out; omega))).mono ?_
  rintro e w7 ⟨rfl, hb⟩
  clear x0 x1 x2 y0 y1 y2
  have HW7 := Aside0.mk (below_step HW6.out hb)
  have BK7 := Aside0.mk (blk_below BK6.out hb)
  have BC7 := Aside0.mk (blk_below BC6.out hb)
  replace HR0 := Aside0.mk (Kd.R_below HR0.out hb)
  replace HR1 := Aside0.mk (Kd.R_below HR1.out hb)
  replace HR2 := Aside0.mk (Kd.R_below HR2.out hb)
  clear hb HW6 BK6 BC6
  have y0 : w7.cell? ⟨gc, 0, none⟩ = some (.slice D0 l0.length d0) := (blk_cell BC7.out 0).trans rfl
  have y1 : w7.cell? ⟨gc, 1, none⟩ = some (.slice D1 l1.length d1) := (blk_cell BC7.out 1).trans rfl
  have y2 : w7.cell? ⟨gc, 2, none⟩ = some (.slice D2 l2.length d2) := (blk_cell BC7.out 2).trans rfl
  go_wp2_with fail
  refine (hfold_calls op D0 d0 l0 D1 d1 l1 D2 d2 l2 w7 (Kd.R_reads' HR0.out).2.2 (Kd.R_reads' HR0.out).2.1 (Kd.R_reads' HR1.out).2.2 (Kd.R_reads' HR1.out).2.1 (Kd.R_reads' HR2.out).2.2 (Kd.R_reads' HR2.out).2.1 HI.out (HUn.out.below HW7.out)).mono ?_
  rintro e w8 ⟨rfl, hb⟩
  clear y0 y1 y2
  have HW8 := Aside0.mk (below_step HW7.out hb)
  have BK8 := Aside0.mk (blk_below BK7.out hb)
  have BC8 := Aside0.mk (blk_below BC7.out hb)
  replace HR0 := Aside0.mk (Kd.R_below HR0.out hb)
  replace HR1 := Aside0.mk (Kd.R_below HR1.out hb)
  replace HR2 := Aside0.mk (Kd.R_below HR2.out hb)
  clear hb HW7 BK7 BC7
  have y0 : w8.cell? ⟨gc, 0, none⟩ = some (.slice D0 l0.length d0) := (blk_cell BC8.out 0).trans rfl
  have y1 : w8.cell? ⟨gc, 1, none⟩ = some (.slice D1 l1.length d1) := (blk_cell BC8.out 1).trans rfl
  have y2 : w8.cell? ⟨gc, 2, none⟩ = some (.slice D2 l2.length d2) := (blk_cell BC8.out 2).trans rfl
  go_wp2_with fail
  obtain ⟨n, l0', l1', l2', hov, e0, e1, e2⟩ := Base.over_f l0 l1 l2 (by have := HBo.out; omega) (by have := HBo.out; omega) (by have := HBo.out; omega) 9000000 (by have := HBo.out; omega)
  have HOv := Aside0.mk hov
  have HI2 := Aside0.mk (over0_in _ _ _ _ _ _ _ _ _ HI.out hov)
  clear hov
  refine (plunderlaw23_over.calls 9000000 (fun k_ => some k_ = (.slice D0 l0.length d0 : Value).ownBlock) (.slice D0 l0.length d0) l0 (fun k_ => some k_ = (.slice D1 l1.length d1 : Value).ownBlock) (.slice D1 l1.length d1) l1 (fun k_ => some k_ = (.slice D2 l2.length d2 : Value).ownBlock) (.slice D2 l2.length d2) l2 n l0' l1' l2' w w8 HW8.out (Kd.R_tight rfl HR0.out) (Kd.R_tight rfl HR1.out) (Kd.R_tight rfl HR2.out) HOv.out).mono ?_
  rintro e w9 ⟨rfl, hy0, hy1, hy2, hb, hkp⟩
  have HW9 := Aside0.mk hb
  have BC9 := Aside0.mk (blk_kept BC8.out hkp (fun hs_ => Or.elim hs_ (Kd.R_ne HR0.out BC8.out (by decide)) (fun e_ => Or.elim e_ (Kd.R_ne HR1.out BC8.out (by decide)) (Kd.R_ne HR2.out BC8.out (by decide)))))
  have BK9 := Aside0.mk (blk_kept BK8.out hkp (fun hs_ => Or.elim hs_ (Kd.R_ne HR0.out BK8.out (by decide)) (fun e_ => Or.elim e_ (Kd.R_ne HR1.out BK8.out (by decide)) (Kd.R_ne HR2.out BK8.out (by decide)))))
  rw [← e0] at hy0 BC9
  rw [← e1] at hy1 BC9
  rw [← e2] at hy2 BC9
  replace HR0 := Aside0.mk hy0
  replace HR1 := Aside0.mk hy1
  replace HR2 := Aside0.mk hy2
  clear hy0 hy1 hy2 hb hkp y0 y1 y2 HW8 BC8 BK8 HOv e0 e1 e2 HI HFv H0 H1 H2
  obtain ⟨⟨gv, ge⟩, hgv⟩ : ∃ r, foldV op l0' l1' l2' = r := ⟨_, rfl⟩
  have HGv := Aside0.mk hgv
  clear hgv
  have y0 : w9.cell? ⟨gc, 0, none⟩ = some (.slice D0 l0'.length d0) := (blk_cell BC9.out 0).trans rfl
  have y1 : w9.cell? ⟨gc, 1, none⟩ = some (.slice D1 l1'.length d1) := (blk_cell BC9.out 1).trans rfl
  have y2 : w9.cell? ⟨gc, 2, none⟩ = some (.slice D2 l2'.length d2) := (blk_cell BC9.out 2).trans rfl
  go_wp2_with fail
  refine (hfold_calls op D0 d0 l0' D1 d1 l1' D2 d2 l2' w9 (Kd.R_reads' HR0.out).2.2 (Kd.R_reads' HR0.out).2.1 (Kd.R_reads' HR1.out).2.2 (Kd.R_reads' HR1.out).2.1 (Kd.R_reads' HR2.out).2.2 (Kd.R_reads' HR2.out).2.1 HI2.out (HUn.out.below HW9.out)).mono ?_
  rintro e w10 ⟨rfl, hb⟩
  rw [HGv.out]
  dsimp only
  clear y0 y1 y2
  have HW10 := Aside0.mk (below_step HW9.out hb)
  have BK10 := Aside0.mk (blk_below BK9.out hb)
  have BC10 := Aside0.mk (blk_below BC9.out hb)
  replace HR0 := Aside0.mk (Kd.R_below HR0.out hb)
  replace HR1 := Aside0.mk (Kd.R_below HR1.out hb)
  replace HR2 := Aside0.mk (Kd.R_below HR2.out hb)
  clear hb HW9 BK9 BC9
  have y0 : w10.cell? ⟨gc, 0, none⟩ = some (.slice D0 l0'.length d0) := (blk_cell BC10.out 0).trans rfl
  have y1 : w10.cell? ⟨gc, 1, none⟩ = some (.slice D1 l1'.length d1) := (blk_cell BC10.out 1).trans rfl
  have y2 : w10.cell? ⟨gc, 2, none⟩ = some (.slice D2 l2'.length d2) := (blk_cell BC10.out 2).trans rfl
  go_wp2_with fail
  refine (reffold_calls op D0 d0 l0' D1 d1 l1' D2 d2 l2' w10 (Kd.R_reads' HR0.out).2.2 (Kd.R_reads' HR0.out).2.1 (Kd.R_reads' HR1.out).2.2 (Kd.R_reads' HR1.out).2.1 (Kd.R_reads' HR2.out).2.2 (Kd.R_reads' HR2.out).2.1 HI2.out (Base.refcheck_f _ 8200 (Nat.le_refl _))).mono ?_
  rintro e w11 ⟨rfl, hb⟩
  rw [HGv.out]
  dsimp only
  clear y0 y1 y2
  have HW11 := Aside0.mk (below_step HW10.out hb)
  have BK11 := Aside0.mk (blk_below BK10.out hb)
  have BC11 := Aside0.mk (blk_below BC10.out hb)
  replace HR0 := Aside0.mk (Kd.R_below HR0.out hb)
  replace HR1 := Aside0.mk (Kd.R_below HR1.out hb)
  replace HR2 := Aside0.mk (Kd.R_below HR2.out hb)
  clear hb HW10 BK10 BC10
  go_wp2
  go_ret
  exact ⟨rfl, HW11.out⟩
end Go.Proofs.YtamfkglnejhjdaaDoor.HLaw
