/- script.spread: the numbers of a list of items behind those that are there. -/
import Derived.Test.YtjlbimnafbngaaaDoorDecExp
import Derived.Test.YtjlbimnafbngaaaDoorWMore
import Derived.Test.YtjlbimnafbngaaaDoorWTab
import Derived.Test.YtjlbimnafbngaaaDoorWLast
import Derived.Deep.CutBlock
import Derived.Deep.DeepCutAuto
namespace Go.Proofs.YtjlbimnafbngaaaDoor.Dec
open Go.RowKit Go.Proofs.YtjlbimnafbngaaaDoorW.PrintWords Go.Proofs.YtjlbimnafbngaaaDoorW.PrintLast Go.Proofs.YtjlbimnafbngaaaDoorW.PrintMore Go.Proofs.YtjlbimnafbngaaaDoor.BitMath Go.Proofs.YtjlbimnafbngaaaDoor.PScriptDecode
set_option linter.unusedVariables false
set_option linter.unusedSimpArgs false
theorem grown_step {w w1 w2 : World} {v v1 : Value} (h : w.grownBy w1 v.ownBlock) (hat : v1.ownBlock = v.ownBlock ∨ ∃ b, v1.ownBlock = some b ∧ w.heap.size ≤ b) (k : w1.grownBy w2 v1.ownBlock) : w.grownBy w2 v.ownBlock := by
  refine ⟨k.os.trans h.os, k.tape.trans h.tape, k.output.trans h.output, Nat.le_trans h.size k.size, fun i hi hne => ?_⟩
  refine (k.block i (Nat.lt_of_lt_of_le hi h.size) ?_).trans (h.block i hi hne)
  rcases hat with e | ⟨b, e, hb⟩
  · rw [e]; exact hne
  · rw [e]; intro he; injection he with he; omega
theorem at_step {w w1 : World} {v v1 v2 : Value} (hat : v1.ownBlock = v.ownBlock ∨ ∃ b, v1.ownBlock = some b ∧ w.heap.size ≤ b) (hs : w.heap.size ≤ w1.heap.size) (k : v2.ownBlock = v1.ownBlock ∨ ∃ b, v2.ownBlock = some b ∧ w1.heap.size ≤ b) : v2.ownBlock = v.ownBlock ∨ ∃ b, v2.ownBlock = some b ∧ w.heap.size ≤ b := by
  rcases k with e | ⟨b, e, hb⟩
  · rcases hat with e2 | ⟨b, e2, hb⟩
    · exact .inl (e.trans e2)
    · exact .inr ⟨b, e.trans e2, hb⟩
  · exact .inr ⟨b, e, by omega⟩
theorem sub_mid (P g R : List Int) : ((P ++ (g ++ R)).take (P.length + g.length)).drop P.length = g := by
  rw [← List.append_assoc, ← List.length_append, List.take_left]
  exact List.drop_left
set_option maxHeartbeats 16000000 in
set_option maxRecDepth 100000 in
theorem spread_calls (n : Nat) : ∀ (l : List S78) (A : Option Addr) (c : Nat) (v : Value) (xs : List Int) (w : World) (base b0 : Nat) (okl : Nat → Prop), dpL l ≤ n → okL l → base ≤ w.heap.size → Kd.R (Kd.int .i64) 3 w base (fun _ => True) v xs → k78.R 78 w b0 okl (.slice A l.length c) l → xs.length + (expL l).length ≤ 2097152 →
    Calls Tryd.prog 27 #[v, .slice A l.length c] w fun e w' => ∃ v', e = .returned v' ∧ Kd.R (Kd.int .i64) 3 w' base (fun _ => True) v' (xs ++ expL l) ∧ w.grownBy w' v.ownBlock ∧ (v'.ownBlock = v.ownBlock ∨ ∃ b, v'.ownBlock = some b ∧ w.heap.size ≤ b) := by
  induction n using Nat.strongRecOn with
  | _ n ih =>
  intro l A c v xs w base b0 okl hd hok hbase hO hL hlen
  have IH := Aside0.mk ih
  have HD := Aside0.mk hd
  have HOk := Aside0.mk hok
  have HBase := Aside0.mk hbase
  have HLen := Aside0.mk hlen
  have HO := Aside0.mk hO
  have HL := Aside0.mk hL
  have hlm : (l.length : Int) ≤ 9223372036854775807 := by have := (Kd.R_reads' hL).2.2.2.1; omega
  clear ih hd hok hbase hlen hO hL
  have hu78 := Tryd.underlying78
  go_enter Tryd.func27, Tryd.ntmps27
  go_wp2
  go_loopw [0, 11] (fun v0 v11 w' => ∃ i : Nat, i ≤ l.length ∧ v11 = .int .i64 (i : Int) ∧ Aside0 (Kd.R (Kd.int .i64) 3 w' base (fun _ => True) v0 (xs ++ expL (l.take i))) ∧ Aside0 (k78.R 78 w' b0 okl (.slice A l.length c) l) ∧ Aside0 (w.grownBy w' v.ownBlock) ∧ Aside0 (v0.ownBlock = v.ownBlock ∨ ∃ b, v0.ownBlock = some b ∧ w.heap.size ≤ b)) (fun _ v11 _ => l.length - (intOf v11).toNat)
  case atStart => exact ⟨0, Nat.zero_le _, rfl, ⟨by rw [List.take_zero, expL, List.append_nil]; exact HO.out⟩, HL, ⟨World.grownBy.refl _ _⟩, ⟨.inl rfl⟩⟩
  case round =>
    clear HO HL
    obtain ⟨i, hi, rfl, HO, HL, HG, HAt⟩ := hrel
    obtain ⟨P, hP⟩ : ∃ P, xs ++ expL (l.take i) = P := ⟨_, rfl⟩
    rw [hP] at HO
    have HP := Aside0.mk hP
    clear hP
    obtain ⟨B0, k0, rfl, _, _⟩ := Kd.R_reads HO.out
    by_cases hlt : i < l.length
    · have HLt := Aside0.mk hlt
      have hltI : (i : Int) < (l.length : Int) := by omega
      obtain ⟨ad, rfl⟩ : ∃ ad, A = some ad := by
        obtain ⟨ad, h, _⟩ := (Kd.R_reads' HL.out).2.2.2.2 (by omega)
        exact ⟨ad, h⟩
      obtain ⟨cs, hcl, hM, hcc⟩ := Kd.R_get HL.out z78 (i : Int) (by omega) hltI
      obtain ⟨v9, rfl, hIn⟩ := k78_openM hM
      have hmem := rd_mem l i hlt
      have htk := take_exp l i hlt
      have htl := take_le i hlt
      obtain ⟨x, hx⟩ : ∃ x, rd_T78 l (i : Int) = x := ⟨_, rfl⟩
      have hx2 : l.getD (i : Int).toNat z78 = x := hx
      rw [hx] at hmem htk
      rw [hx2] at hcc hIn
      have hox := okL_mem HOk.out hmem
      have hdx := dp_mem hmem
      have hlx := exp_len_mem HOk.out hmem
      obtain ⟨m, g, cnt⟩ := x
      dsimp only at hcc hIn hox hdx hlx
      obtain ⟨A1, c1, rfl⟩ := Kd.R_slice hIn
      have z0 : wr.cell? (ad.add (i * 3)) = some (.int .i64 m) := hcc 0 _ rfl
      have z1 : wr.cell? ⟨(ad.add (i * 3)).block, (ad.add (i * 3)).off + 1, none⟩ = some (.slice A1 g.length c1) := by rw [← add_field _ _ 1 (by omega)]; exact hcc 1 _ rfl
      have z2 : wr.cell? ⟨(ad.add (i * 3)).block, (ad.add (i * 3)).off + 2, none⟩ = some (.int .i64 cnt) := by rw [← add_field _ _ 2 (by omega)]; exact hcc 2 _ rfl
      have HIn := Aside0.mk hIn
      have HX0 := Aside0.mk (And.intro htk (And.intro htl (And.intro hox (And.intro hdx hlx))))
      clear hcl hM hcc hmem htk htl hx hx2 hox hdx hlx hIn hlt
      by_cases hg : g = []
      · subst hg
        go_upto_if 18 with ((with_reducible refine gate_dst (N := 6) rfl ?_); refine box_event ?hg (N := 6) ?hd (cs := #[.int .i64 0, .slice none 0 0, .int .i64 0]) (t := 78) ?hr ?_; (case hd => rfl); (case hg => rfl); (case hr => first | (go_simp; done) | (go_simp; rfl)); intro gx hg wa hbox hb; have hBa := hb; have hBox := hbox; have hGx := hg; have x0 : wa.cell? ⟨gx, 0, none⟩ = some (.int .i64 0) := (blk_cell hbox 0).trans rfl; have x1 : wa.cell? ⟨gx, 1, none⟩ = some (.slice none 0 0) := (blk_cell hbox 1).trans rfl; have x2 : wa.cell? ⟨gx, 2, none⟩ = some (.int .i64 0) := (blk_cell hbox 2).trans rfl; have xf0 := blk_frozen hbox 0; have xf1 := blk_frozen hbox 1; have xf2 := blk_frozen hbox 2; have HBa := Aside0.mk hBa; have HBox := Aside0.mk hBox; have HGx := Aside0.mk hGx; clear hb hbox hg hBa hBox hGx)
        have HB1 := Aside0.mk (show Below wr.heap.size wr (((wa.setCell ⟨gx, 0, none⟩ (.int .i64 m)).setCell ⟨gx, 1, none⟩ (.slice A1 0 c1)).setCell ⟨gx, 2, none⟩ (.int .i64 cnt)) from ((HBa.out.setCell (p := ⟨gx, 0, none⟩) (by rw [HGx.out]; exact Nat.le_refl _) _).setCell (p := ⟨gx, 1, none⟩) (by rw [HGx.out]; exact Nat.le_refl _) _).setCell (p := ⟨gx, 2, none⟩) (by rw [HGx.out]; exact Nat.le_refl _) _)
        have HX := Aside0.mk (show (((wa.setCell ⟨gx, 0, none⟩ (.int .i64 m)).setCell ⟨gx, 1, none⟩ (.slice A1 0 c1)).setCell ⟨gx, 2, none⟩ (.int .i64 cnt)).heap[gx]? = some (.cells #[.int .i64 m, .slice A1 0 c1, .int .i64 cnt] 78 (0, 0)) from blk_put (cs := #[.int .i64 m, .slice A1 0 c1, .int .i64 0]) (blk_put (cs := #[.int .i64 m, .slice none 0 0, .int .i64 0]) (blk_put (cs := #[.int .i64 0, .slice none 0 0, .int .i64 0]) HBox.out 0 _ rfl) 1 _ rfl) 2 _ rfl)
        clear x0 x1 x2 xf0 xf1 xf2 HBa HBox HGx z0 z1 z2
        generalize (((wa.setCell ⟨gx, 0, none⟩ (.int .i64 m)).setCell ⟨gx, 1, none⟩ (.slice A1 0 c1)).setCell ⟨gx, 2, none⟩ (.int .i64 cnt)) = w1 at HB1 HX ⊢
        have HO1 := Aside0.mk (Kd.R_below HO.out HB1.out)
        have HL1 := Aside0.mk (Kd.R_below HL.out HB1.out)
        have HI1 := Aside0.mk (Kd.R_below HIn.out HB1.out)
        have HG1 := Aside0.mk (grown_step HG.out HAt.out (grown_of_below HB1.out (Value.slice B0 P.length k0).ownBlock))
        clear HO HL HIn HG HB1
        have x0 : w1.cell? ⟨gx, 0, none⟩ = some (.int .i64 m) := (blk_cell HX.out 0).trans rfl
        have x2 : w1.cell? ⟨gx, 2, none⟩ = some (.int .i64 cnt) := (blk_cell HX.out 2).trans rfl
        go_upto_block 2 with fail
        clear x0 x2
        obtain ⟨q, hq⟩ : ∃ q : Nat, cnt = (q : Int) := ⟨cnt.toNat, by have := HX0.out.2.2.1; omega⟩
        subst hq
        have hqI : (q : Int) ≤ 1048576 := by have := HX0.out.2.2.1; omega
        have HPl := Aside0.mk (show P.length + q ≤ 2097152 from by have h1 := HX0.out.1; have h2 := HX0.out.2.1; have h3 := HLen.out; have h4 := HP.out; rw [← h4, List.length_append]; rw [h1, List.length_append, expI_num, rep_len] at h2; simp at h2; omega)
        go_wp2_with fail
        go_loopw [0, 21] (fun v0 v21 w' => ∃ j : Nat, j ≤ q ∧ v21 = .int .i64 (j : Int) ∧ Aside0 (Kd.R (Kd.int .i64) 3 w' base (fun _ => True) v0 (P ++ rep j [m])) ∧ Aside0 (k78.R 78 w' b0 okl (.slice (some ad) l.length c) l) ∧ Aside0 (w'.heap[gx]? = some (.cells #[.int .i64 m, .slice A1 0 c1, .int .i64 (q : Int)] 78 (0, 0))) ∧ Aside0 (w.grownBy w' v.ownBlock) ∧ Aside0 (v0.ownBlock = v.ownBlock ∨ ∃ b, v0.ownBlock = some b ∧ w.heap.size ≤ b)) (fun _ v21 _ => q - (intOf v21).toNat)
        case atStart => exact ⟨0, Nat.zero_le _, rfl, ⟨by rw [rep_zero, List.append_nil]; exact HO1.out⟩, HL1, HX, HG1, HAt⟩
        case round =>
          clear HO1 HL1 HX HG1 HI1 HAt
          obtain ⟨j, hj, rfl, HOq, HLq, HXq, HGq, HAq⟩ := hrel
          have x0 : wr.cell? ⟨gx, 0, none⟩ = some (.int .i64 m) := (blk_cell HXq.out 0).trans rfl
          obtain ⟨B1, k1, rfl, _, _⟩ := Kd.R_reads HOq.out
          by_cases hjq : j < q
          · have hjI : (j : Int) < (q : Int) := by omega
            go_wp2_with (first | ((with_reducible refine gate_builtin (b := .append) (xs := #[.tmp 23, .tmp 26]) rfl ?_); at_builtin; refine Kd.R_append (Kd.int .i64) (w0 := wr) base rfl (.tmp 23) (.tmp 26) 22 3 (.int .i64 0) 8 rfl Tryd.underlying22 info3 rfl (by decide) (by omega) (.slice B1 (P ++ rep j [m]).length k1) (P ++ rep j [m]) m [.int .i64 m] (fun _ => True) (fun _ => False) rfl rfl ?aP (fun _ hk => hk.elim) ?aF ?aO ?aB ?aS ?aL ?_; (case aP => exact rfl); (case aB => exact Below.refl _ _); (case aF => exact fun _ _ => trivial); (case aO => exact HOq.out); (case aS => (have h1_ := HBase.out; have h2_ := HGq.out.size; omega)); (case aL => (have h1_ := HPl.out; rw [List.length_append, rep_len]; simp; omega)); intro v8 w8 ho hb hg hat; have n_0 := Aside0.mk ho; have n_1 := Aside0.mk (Kd.R_over' HLq.out (Kd.R_typed HOq.out) (by decide) hg); have n_2 := Aside0.mk ((hg.block gx (blk_lt HXq.out) (Kd.R_ne HOq.out HXq.out (by decide))).trans HXq.out); have n_3 := Aside0.mk (grown_step HGq.out HAq.out hg); have n_4 := Aside0.mk (at_step HAq.out HGq.out.size hat); clear ho hb hg hat))
            go_roundw
            case measure => simp [intOf]; omega
            case rel => exact ⟨j + 1, by omega, by go_num, ⟨by have h_ := n_0.out; rw [List.append_assoc, ← rep_succ] at h_; exact h_⟩, n_1, n_2, n_3, n_4⟩
          · have hje : j = q := by omega
            subst hje
            go_wp2
            go_roundw
            case measure => have := HLt.out; simp [intOf]; omega
            case rel => exact ⟨i + 1, by have := HLt.out; omega, by go_num, ⟨by rw [HX0.out.1, ← List.append_assoc, HP.out, expI_num]; exact HOq.out⟩, HLq, HGq, HAq⟩
      · have hg0 : (g.length == 0) = false := by cases g with | nil => exact absurd rfl hg | cons => rfl
        have hg1 : ((g.length : Int) == 0) = false := by cases g with | nil => exact absurd rfl hg | cons => simp; omega
        have hg2 : ¬ (g.length : Int) = 0 := by cases g with | nil => exact absurd rfl hg | cons => simp; omega
        have HGn := Aside0.mk hg
        clear hg
        go_upto_if 18 with ((with_reducible refine gate_dst (N := 6) rfl ?_); refine box_event ?hg (N := 6) ?hd (cs := #[.int .i64 0, .slice none 0 0, .int .i64 0]) (t := 78) ?hr ?_; (case hd => rfl); (case hg => rfl); (case hr => first | (go_simp; done) | (go_simp; rfl)); intro gx hg wa hbox hb; have hBa := hb; have hBox := hbox; have hGx := hg; have x0 : wa.cell? ⟨gx, 0, none⟩ = some (.int .i64 0) := (blk_cell hbox 0).trans rfl; have x1 : wa.cell? ⟨gx, 1, none⟩ = some (.slice none 0 0) := (blk_cell hbox 1).trans rfl; have x2 : wa.cell? ⟨gx, 2, none⟩ = some (.int .i64 0) := (blk_cell hbox 2).trans rfl; have xf0 := blk_frozen hbox 0; have xf1 := blk_frozen hbox 1; have xf2 := blk_frozen hbox 2; have HBa := Aside0.mk hBa; have HBox := Aside0.mk hBox; have HGx := Aside0.mk hGx; clear hb hbox hg hBa hBox hGx)
        have HB1 := Aside0.mk (show Below wr.heap.size wr (((wa.setCell ⟨gx, 0, none⟩ (.int .i64 m)).setCell ⟨gx, 1, none⟩ (.slice A1 g.length c1)).setCell ⟨gx, 2, none⟩ (.int .i64 cnt)) from ((HBa.out.setCell (p := ⟨gx, 0, none⟩) (by rw [HGx.out]; exact Nat.le_refl _) _).setCell (p := ⟨gx, 1, none⟩) (by rw [HGx.out]; exact Nat.le_refl _) _).setCell (p := ⟨gx, 2, none⟩) (by rw [HGx.out]; exact Nat.le_refl _) _)
        have HX := Aside0.mk (show (((wa.setCell ⟨gx, 0, none⟩ (.int .i64 m)).setCell ⟨gx, 1, none⟩ (.slice A1 g.length c1)).setCell ⟨gx, 2, none⟩ (.int .i64 cnt)).heap[gx]? = some (.cells #[.int .i64 m, .slice A1 g.length c1, .int .i64 cnt] 78 (0, 0)) from blk_put (cs := #[.int .i64 m, .slice A1 g.length c1, .int .i64 0]) (blk_put (cs := #[.int .i64 m, .slice none 0 0, .int .i64 0]) (blk_put (cs := #[.int .i64 0, .slice none 0 0, .int .i64 0]) HBox.out 0 _ rfl) 1 _ rfl) 2 _ rfl)
        clear x0 x1 x2 xf0 xf1 xf2 HBa HBox HGx z0 z1 z2
        generalize (((wa.setCell ⟨gx, 0, none⟩ (.int .i64 m)).setCell ⟨gx, 1, none⟩ (.slice A1 g.length c1)).setCell ⟨gx, 2, none⟩ (.int .i64 cnt)) = w1 at HB1 HX ⊢
        have HO1 := Aside0.mk (Kd.R_below HO.out HB1.out)
        have HL1 := Aside0.mk (Kd.R_below HL.out HB1.out)
        have HI1 := Aside0.mk (Kd.R_below HIn.out HB1.out)
        have HG1 := Aside0.mk (grown_step HG.out HAt.out (grown_of_below HB1.out (Value.slice B0 P.length k0).ownBlock))
        clear HO HL HIn HG HB1
        have x1 : w1.cell? ⟨gx, 1, none⟩ = some (.slice A1 g.length c1) := (blk_cell HX.out 1).trans rfl
        have x2 : w1.cell? ⟨gx, 2, none⟩ = some (.int .i64 cnt) := (blk_cell HX.out 2).trans rfl
        go_wp2_with fail
        refine (IH.out (dpL g) (by have h1 := HX0.out.2.2.2.1; have h2 := HD.out; omega) g A1 c1 (.slice B0 P.length k0) P w1 base b0 _ (Nat.le_refl _) HX0.out.2.2.1.2.2 (by have h1_ := HBase.out; have h2_ := HG1.out.size; omega) HO1.out HI1.out (by have h1 := HX0.out.1; have h2 := HX0.out.2.1; have h3 := HLen.out; have h4 := HP.out; have h5 := HX0.out.2.2.1; rw [← h4, List.length_append]; rw [h1, List.length_append, expI_grp HGn.out, rep_len] at h2; obtain ⟨q, hq⟩ : ∃ q, cnt.toNat = q + 1 := ⟨cnt.toNat - 1, by omega⟩; rw [hq, Nat.succ_mul] at h2; omega)).mono ?_
        rintro e w2 ⟨v2, rfl, hO2, hg, hat⟩
        have HL2 := Aside0.mk (Kd.R_over' HL1.out (Kd.R_typed HO1.out) (by decide) hg)
        have HX2 := Aside0.mk ((hg.block gx (blk_lt HX.out) (Kd.R_ne HO1.out HX.out (by decide))).trans HX.out)
        have HG2 := Aside0.mk (grown_step HG1.out HAt.out hg)
        have HA2 := Aside0.mk (at_step HAt.out HG1.out.size hat)
        have HO2 := Aside0.mk hO2
        obtain ⟨B2, k2, rfl, _, _⟩ := Kd.R_reads hO2
        clear hO2 hg hat HO1 HL1 HX HG1 HI1 HAt x1 x2
        obtain ⟨G, hG⟩ : ∃ G, expL g = G := ⟨_, rfl⟩
        have HGG := Aside0.mk hG
        rw [hG] at HO2 HA2 ⊢
        clear hG
        have x2 : w2.cell? ⟨gx, 2, none⟩ = some (.int .i64 cnt) := (blk_cell HX2.out 2).trans rfl
        obtain ⟨q, hq⟩ : ∃ q : Nat, cnt = ((q + 1 : Nat) : Int) := ⟨cnt.toNat - 1, by have := HX0.out.2.2.1; omega⟩
        subst hq
        have hqI : (q : Int) ≤ 1048576 := by have := HX0.out.2.2.1; omega
        have HPl := Aside0.mk (show P.length + (q + 1) * G.length ≤ 2097152 from by have h1 := HX0.out.1; have h2 := HX0.out.2.1; have h3 := HLen.out; have h4 := HP.out; rw [← h4, List.length_append]; rw [h1, List.length_append, expI_grp HGn.out, rep_len, HGG.out] at h2; simp at h2; omega)
        have hPG : (P.length : Int) + (G.length : Int) ≤ 2097152 := by have := HPl.out; rw [Nat.succ_mul] at this; omega
        go_upto_block 4 with fail
        rw [show ((P.length : Int) + (G.length : Int) - (P.length : Int)) = (G.length : Int) from by omega]
        clear x2
        have e_ : P.length + G.length = (P ++ G).length := List.length_append.symm
        go_wp2_with fail
        go_loopw [0, 42] (fun v0 v42 w' => ∃ j : Nat, j ≤ q ∧ v42 = .int .i64 (j : Int) ∧ Aside0 (Kd.R (Kd.int .i64) 3 w' base (fun _ => True) v0 (P ++ rep (j + 1) G)) ∧ Aside0 (k78.R 78 w' b0 okl (.slice (some ad) l.length c) l) ∧ Aside0 (w.grownBy w' v.ownBlock) ∧ Aside0 (v0.ownBlock = v.ownBlock ∨ ∃ b, v0.ownBlock = some b ∧ w.heap.size ≤ b)) (fun _ v42 _ => q - (intOf v42).toNat)
        case atStart => exact ⟨0, Nat.zero_le _, rfl, ⟨by rw [rep_succ, rep_zero, List.nil_append, e_]; exact HO2.out⟩, HL2, HG2, by rw [e_]; exact HA2⟩
        case round =>
          clear e_
          clear HO2 HL2 HX2 HG2 HA2
          obtain ⟨j, hj, rfl, HOq, HLq, HGq, HAq⟩ := hrel
          obtain ⟨Z, hZ⟩ : ∃ Z, P ++ rep (j + 1) G = Z := ⟨_, rfl⟩
          rw [hZ] at HOq
          have HZ := Aside0.mk hZ
          obtain ⟨B1, k1, rfl, hle1, hC1⟩ := Kd.R_reads HOq.out
          by_cases hjq : j < q
          · have hjI : (j : Int) < (q : Int) := by omega
            have hjl : (j + 1) * G.length ≤ q * G.length := Nat.mul_le_mul_right _ hjq
            have hlq : Z.length = P.length + (j + 1) * G.length := by rw [← hZ, List.length_append, rep_len]
            have hmid : P.length + G.length ≤ Z.length := by rw [hlq, Nat.succ_mul]; omega
            have HM := Aside0.mk (show (Kd.int .i64).C wr (if k1 = P.length then B1 else B1.map (·.add (P.length * 1))) ((Z.take (P.length + G.length)).drop P.length).length ((Z.take (P.length + G.length)).drop P.length) from Kd.C_mid (lo := P.length) (hi := P.length + G.length) hC1 (by omega) hmid hle1)
            have hsub : (Z.take (P.length + G.length)).drop P.length = G := by rw [← hZ, rep_succ']; exact sub_mid P G _
            rw [hsub] at HM
            have hcut : ∀ W : World, (Instr.slice 22 (.slice B1 Z.length k1) (some (.int .i64 (P.length : Int))) (some (.int .i64 ((P.length : Int) + (G.length : Int)))) none).run Tryd.prog W = .ok (.slice (if k1 = P.length then B1 else B1.map (·.add (P.length * 1))) G.length (k1 - P.length)) W := by
              intro W
              obtain ⟨i0, hi0, hz⟩ := Option.map_eq_some_iff.1 info3
              simp only [Prod.mk.injEq] at hz
              have h := cut_mid (P := Tryd.prog) 22 3 .i64 .i64 Tryd.underlying22 hi0 1 hz.2.1 B1 Z.length k1 (P.length : Int) ((P.length : Int) + (G.length : Int)) (by omega) (by omega) (by omega) hle1 W
              rw [show ((P.length : Int) + (G.length : Int)).toNat - (P.length : Int).toNat = G.length by omega, Int.toNat_natCast] at h
              exact h
            have HPj := Aside0.mk (show Z.length + G.length ≤ 2097152 from by have h1 := HPl.out; rw [hlq]; rw [Nat.succ_mul] at h1; omega)
            clear hlq hmid hsub hjl hC1 hle1 hZ
            generalize (if k1 = P.length then B1 else B1.map (·.add (P.length * 1))) = B4 at HM hcut
            have hRR : ReadsRow (fun x cs => cs = [Value.int .i64 x]) (Kd.int .i64).sz wr B4 G.length G := HM.out
            have HRR := Aside0.mk hRR
            clear hRR
            go_wp2_with (first | ((with_reducible refine gate_builtin (b := .append) (xs := #[.tmp 44, .tmp 50]) rfl ?_); at_builtin; refine Kd.R_append_rows (Kd.int .i64) (Rr := fun x cs => cs = [.int .i64 x]) (w0 := wr) base rfl (.tmp 44) (.tmp 50) 22 3 (.int .i64 0) 8 rfl Tryd.underlying22 info3 rfl (by decide) (by omega) (.slice B1 Z.length k1) Z G B4 G.length (k1 - P.length) (fun _ => True) (fun _ => False) rfl rfl ?aO ?aR ?aM (fun _ hk => hk.elim) ?aF ?aB ?aS ?aL ?_; (case aO => exact HOq.out); (case aR => exact HRR.out); (case aM => exact fun _ _ h => h); (case aF => exact fun _ _ => trivial); (case aB => exact Below.refl _ _); (case aS => (have h1_ := HBase.out; have h2_ := HGq.out.size; omega)); (case aL => (have h1_ := HPj.out; omega)); intro v8 w8 ho hb hg hat; have n_0 := Aside0.mk ho; have n_1 := Aside0.mk (Kd.R_over' HLq.out (Kd.R_typed HOq.out) (by decide) hg); have n_3 := Aside0.mk (grown_step HGq.out HAq.out hg); have n_4 := Aside0.mk (at_step HAq.out HGq.out.size hat); clear ho hb hg hat))
            go_roundw
            case measure => simp [intOf]; omega
            case rel => exact ⟨j + 1, by omega, by go_num, ⟨by have h_ := n_0.out; rw [← HZ.out, List.append_assoc, ← rep_succ] at h_; exact h_⟩, n_1, n_3, n_4⟩
          · have hje : j = q := by omega
            clear hZ hC1 hle1
            subst hje
            go_wp2
            go_roundw
            case measure => have := HLt.out; simp [intOf]; omega
            case rel => exact ⟨i + 1, by have := HLt.out; omega, by go_num, ⟨by rw [HX0.out.1, ← List.append_assoc, HP.out, expI_grp HGn.out, HGG.out, Int.toNat_natCast, HZ.out]; exact HOq.out⟩, HLq, HGq, HAq⟩
    · have heq : i = l.length := by omega
      subst heq
      go_wp2
      go_ret
      refine ⟨_, rfl, ?_, HG.out, HAt.out⟩
      rw [← HP.out, List.take_length] at HO
      rw [← HP.out, List.take_length]
      exact HO.out
end Go.Proofs.YtjlbimnafbngaaaDoor.Dec
