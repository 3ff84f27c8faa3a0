/- How many numbers a list of items comes to: script.size, for every list of items. -/
import Derived.Test.YtjlbimnafbngaaaDoorDecExp
import Derived.Test.YtjlbimnafbngaaaDoorWMore
import Derived.Test.YtjlbimnafbngaaaDoorWTab
import Derived.Test.YtjlbimnafbngaaaDoorWLast
import Derived.Deep.CutBlock
import Derived.Deep.DeepCutAuto
namespace Go.Proofs.YtjlbimnafbngaaaDoor.Dec
open Go.RowKit Go.Proofs.YtjlbimnafbngaaaDoorW.PrintWords Go.Proofs.YtjlbimnafbngaaaDoorW.PrintLast Go.Proofs.YtjlbimnafbngaaaDoorW.PrintMore Go.Proofs.YtjlbimnafbngaaaDoor.BitMath Go.Proofs.YtjlbimnafbngaaaDoor.PScriptDecode
attribute [local go_sem] max2_int min2_int max_two min_two max_three min_three max_four min_four   -- for this text's walks alone
set_option linter.unusedVariables false
set_option linter.unusedSimpArgs false
def sat (n : Nat) : Int := if n ≤ 1048576 then (n : Int) else 1048577
theorem sat_mn (a b c : Nat) (hc : 1 ≤ c) (hc2 : c ≤ 1048576) : mn (wrap64 (sat a + wrap64 (sat b * (c : Int)))) 1048577 = sat (a + b * c) := by
  have hb0 : 0 ≤ sat b := by unfold sat; split <;> omega
  have hb1 : sat b ≤ 1048577 := by unfold sat; split <;> omega
  have ha0 : 0 ≤ sat a := by unfold sat; split <;> omega
  have ha1 : sat a ≤ 1048577 := by unfold sat; split <;> omega
  have hp0 : 0 ≤ sat b * (c : Int) := Int.mul_nonneg hb0 (by omega)
  have hp1 : sat b * (c : Int) ≤ 1048577 * 1048576 := by
    refine Int.le_trans (Int.mul_le_mul_of_nonneg_right hb1 (by omega)) (Int.mul_le_mul_of_nonneg_left (by omega) (by decide))
  have hp2 : (1048577 : Int) * 1048576 = 1099512676352 := by decide
  rw [wrap_id (a := sat b * (c : Int)) (by unfold In64; omega), wrap_id (by unfold In64; omega)]
  have hmn : ∀ x : Int, mn x 1048577 = if 1048577 < x then 1048577 else x := fun x => rfl
  rw [hmn]
  by_cases h : b ≤ 1048576
  · have e : sat b * (c : Int) = ((b * c : Nat) : Int) := by unfold sat; rw [if_pos h]; push_cast; rfl
    rw [e]
    generalize b * c = p
    unfold sat
    split <;> split <;> split <;> omega
  · have h1 : b ≤ b * c := Nat.le_mul_of_pos_right _ (by omega)
    have h2 : (1048577 : Int) ≤ sat b * (c : Int) := by
      unfold sat; rw [if_neg h]
      have := Int.mul_le_mul_of_nonneg_left (show (1 : Int) ≤ (c : Int) by omega) (show (0 : Int) ≤ 1048577 by decide)
      omega
    have h3 : sat (a + b * c) = 1048577 := by unfold sat; rw [if_neg (by omega)]
    rw [h3]
    split <;> omega
theorem sat_in (n : Nat) : 0 ≤ sat n ∧ sat n ≤ 1048577 := by unfold sat; split <;> omega
set_option maxHeartbeats 16000000 in
set_option maxRecDepth 100000 in
theorem size_calls (n : Nat) : ∀ (l : List S78) (A : Option Addr) (c : Nat) (w : World), dpL l ≤ n → okL l → k78.C w A l.length l →
    Calls Tryd.prog 26 #[.slice A l.length c] w fun e w' => e = .returned (.int .i64 (sat (expL l).length)) ∧ Below w.heap.size w w' := by
  induction n using Nat.strongRecOn with
  | _ n ih =>
  intro l A c w hd ho hC
  have IH := Aside0.mk ih
  have HD := Aside0.mk hd
  have HOk := Aside0.mk ho
  have HC := Aside0.mk hC
  have hlm : (l.length : Int) ≤ 9223372036854775807 := by have := hC.2.1; omega
  clear ih hd ho hC
  have hu78 := Tryd.underlying78
  go_enter Tryd.func26, Tryd.ntmps26
  go_wp2
  go_loopw [3, 9] (fun v3 v9 w' => ∃ i : Nat, i ≤ l.length ∧ v3 = .int .i64 (sat (expL (l.take i)).length) ∧ v9 = .int .i64 (i : Int) ∧ Aside0 (Below w.heap.size w w')) (fun _ v9 _ => l.length - (intOf v9).toNat)
  case atStart => exact ⟨0, Nat.zero_le _, by rw [List.take_zero, expL]; rfl, rfl, ⟨Below.refl _ _⟩⟩
  case round =>
    obtain ⟨i, hi, rfl, rfl, HB⟩ := hrel
    by_cases hlt : i < l.length
    · have HLt := Aside0.mk hlt
      have hltI : (i : Int) < (l.length : Int) := by omega
      have hmem := rd_mem l i hlt
      have htk := take_exp l i hlt
      obtain ⟨ad, A1, c1, rfl, z0, z1, z2, hle, hi1⟩ := at_T78 HC.out (i : Int) (by omega) hltI
      obtain ⟨x, hx⟩ : ∃ x, rd_T78 l (i : Int) = x := ⟨_, rfl⟩
      rw [hx] at hmem htk z0 z1 z2 hle hi1
      have hox := okL_mem HOk.out hmem
      have hdx := dp_mem hmem
      obtain ⟨m, g, cnt⟩ := x
      dsimp only at hox hdx z0 z1 z2 hle hi1
      obtain ⟨q, rfl⟩ : ∃ q : Nat, cnt = (q : Int) := ⟨cnt.toNat, by omega⟩
      rw [Int.toNat_natCast] at z0 z1 z2
      replace z0 := (HB.out.cell (World.block_lt_of_cell? w _ z0)).trans z0
      replace z1 := (HB.out.cell (World.block_lt_of_cell? w _ z1)).trans z1
      replace z2 := (HB.out.cell (World.block_lt_of_cell? w _ z2)).trans z2
      have HI := Aside0.mk hi1
      have hq1 : (1 : Int) ≤ (q : Int) := hox.1
      have hq2 : (q : Int) ≤ 1048576 := hox.2.1
      have HOx := Aside0.mk hox
      have HDx := Aside0.mk hdx
      obtain ⟨b, hbq⟩ : ∃ b : Nat, (if g = [] then 1 else (expL g).length) = b := ⟨_, rfl⟩
      have htot : (expL (l.take (i + 1))).length = (expL (l.take i)).length + b * q := by
        rw [htk, List.length_append, ← hbq]
        by_cases hg : g = []
        · subst hg; rw [expI_num, rep_len, Int.toNat_natCast, if_pos rfl]; simp
        · rw [expI_grp hg, rep_len, Int.toNat_natCast, if_neg hg, Nat.mul_comm]
      have hsm := sat_mn (expL (l.take i)).length b q (by omega) (by omega)
      rw [← htot] at hsm
      have ha := sat_in (expL (l.take i)).length
      have hb := sat_in b
      obtain ⟨sa, hsa⟩ : ∃ sa, sat (expL (l.take i)).length = sa := ⟨_, rfl⟩
      obtain ⟨sb, hsb⟩ : ∃ sb, sat b = sb := ⟨_, rfl⟩
      rw [hsa, hsb] at hsm
      rw [hsa] at ha ⊢
      rw [hsb] at hb
      obtain ⟨pq, hpq⟩ : ∃ pq, wrap64 (sb * (q : Int)) = pq := ⟨_, rfl⟩
      rw [hpq] at hsm
      obtain ⟨s, hs⟩ : ∃ s, wrap64 (sa + pq) = s := ⟨_, rfl⟩
      rw [hs] at hsm
      obtain ⟨r, hr⟩ : ∃ r, sat (expL (l.take (i + 1))).length = r := ⟨_, rfl⟩
      rw [hr] at hsm
      have HS := Aside0.mk hr
      have HR := Aside0.mk (show (if 1048577 < s then 1048577 else s) = r from hsm)
      have HSb := Aside0.mk hsb
      have HBq := Aside0.mk hbq
      clear hmem htk hx hox hdx hi1 hsm hr hsa hsb hbq htot hlt
      by_cases hg : g = []
      · subst hg
        have hsb1 : sb = 1 := by rw [← HSb.out, ← HBq.out, if_pos rfl]; rfl
        subst hsb1
        rw [Int.one_mul, wrap_id (by unfold In64; omega)] at hpq
        subst hpq
        rw [wrap_id (by unfold In64; omega)] at hs
        subst hs
        go_upto_if 16 with ((with_reducible refine gate_dst (N := 5) rfl ?_); refine box_event ?hg (N := 5) ?hd (cs := #[.int .i64 0, .slice none 0 0, .int .i64 0]) (t := 78) ?hr ?_; (case hd => rfl); (case hg => rfl); (case hr => first | (go_simp; done) | (go_simp; rfl)); intro gx hg wa hbox hb; have hBa := hb; have hBox := hbox; have hGx := hg; have x0 : wa.cell? ⟨gx, 0, none⟩ = some (.int .i64 0) := (blk_cell hbox 0).trans rfl; have x1 : wa.cell? ⟨gx, 1, none⟩ = some (.slice none 0 0) := (blk_cell hbox 1).trans rfl; have x2 : wa.cell? ⟨gx, 2, none⟩ = some (.int .i64 0) := (blk_cell hbox 2).trans rfl; have xf0 := blk_frozen hbox 0; have xf1 := blk_frozen hbox 1; have xf2 := blk_frozen hbox 2; have HBa := Aside0.mk hBa; have HBox := Aside0.mk hBox; have HGx := Aside0.mk hGx; clear hb hbox hg hBa hBox hGx)
        have HB1 := Aside0.mk (show Below wr.heap.size wr (((wa.setCell ⟨gx, 0, none⟩ (.int .i64 m)).setCell ⟨gx, 1, none⟩ (.slice A1 0 c1)).setCell ⟨gx, 2, none⟩ (.int .i64 (q : Int))) from ((HBa.out.setCell (p := ⟨gx, 0, none⟩) (by rw [HGx.out]; exact Nat.le_refl _) _).setCell (p := ⟨gx, 1, none⟩) (by rw [HGx.out]; exact Nat.le_refl _) _).setCell (p := ⟨gx, 2, none⟩) (by rw [HGx.out]; exact Nat.le_refl _) _)
        have HX := Aside0.mk (show (((wa.setCell ⟨gx, 0, none⟩ (.int .i64 m)).setCell ⟨gx, 1, none⟩ (.slice A1 0 c1)).setCell ⟨gx, 2, none⟩ (.int .i64 (q : Int))).heap[gx]? = some (.cells #[.int .i64 m, .slice A1 0 c1, .int .i64 (q : Int)] 78 (0, 0)) from blk_put (cs := #[.int .i64 m, .slice A1 0 c1, .int .i64 0]) (blk_put (cs := #[.int .i64 m, .slice none 0 0, .int .i64 0]) (blk_put (cs := #[.int .i64 0, .slice none 0 0, .int .i64 0]) HBox.out 0 _ rfl) 1 _ rfl) 2 _ rfl)
        clear x0 x1 x2 xf0 xf1 xf2 HBa HBox HGx z0 z1 z2
        generalize (((wa.setCell ⟨gx, 0, none⟩ (.int .i64 m)).setCell ⟨gx, 1, none⟩ (.slice A1 0 c1)).setCell ⟨gx, 2, none⟩ (.int .i64 (q : Int))) = w1 at HB1 HX ⊢
        have HB2 := Aside0.mk (below_step HB.out HB1.out)
        have HXq := HX
        have x2 : w1.cell? ⟨gx, 2, none⟩ = some (.int .i64 (q : Int)) := (blk_cell HXq.out 2).trans rfl
        by_cases hov : 1048577 < sa + (q : Int)
        · have hr : r = 1048577 := by rw [← HR.out, if_pos hov]
          subst hr
          go_wp2
          go_roundw
          case measure => have := HLt.out; simp [intOf]; omega
          case rel => exact ⟨i + 1, by have := HLt.out; omega, by rw [HS.out], by go_num, HB2⟩
        · have hr : r = sa + (q : Int) := by rw [← HR.out, if_neg hov]
          subst hr
          go_wp2
          go_roundw
          case measure => have := HLt.out; simp [intOf]; omega
          case rel => exact ⟨i + 1, by have := HLt.out; omega, by rw [HS.out], by go_num, HB2⟩
      · have hg0 : (g.length == 0) = false := by cases g with | nil => exact absurd rfl hg | cons => rfl
        have hg1 : decide ((g.length : Int) > 0) = true := decide_eq_true (by cases g with | nil => exact absurd rfl hg | cons => simp)
        have hg2 : 0 < g.length := by cases g with | nil => exact absurd rfl hg | cons => simp
        have hg3 : decide (0 < g.length) = true := decide_eq_true hg2
        have hsb1 : sat (expL g).length = sb := by rw [← HSb.out, ← HBq.out, if_neg hg]
        have HSb1 := Aside0.mk hsb1
        clear hg hsb1
        go_upto_if 16 with ((with_reducible refine gate_dst (N := 5) rfl ?_); refine box_event ?hg (N := 5) ?hd (cs := #[.int .i64 0, .slice none 0 0, .int .i64 0]) (t := 78) ?hr ?_; (case hd => rfl); (case hg => rfl); (case hr => first | (go_simp; done) | (go_simp; rfl)); intro gx hg wa hbox hb; have hBa := hb; have hBox := hbox; have hGx := hg; have x0 : wa.cell? ⟨gx, 0, none⟩ = some (.int .i64 0) := (blk_cell hbox 0).trans rfl; have x1 : wa.cell? ⟨gx, 1, none⟩ = some (.slice none 0 0) := (blk_cell hbox 1).trans rfl; have x2 : wa.cell? ⟨gx, 2, none⟩ = some (.int .i64 0) := (blk_cell hbox 2).trans rfl; have xf0 := blk_frozen hbox 0; have xf1 := blk_frozen hbox 1; have xf2 := blk_frozen hbox 2; have HBa := Aside0.mk hBa; have HBox := Aside0.mk hBox; have HGx := Aside0.mk hGx; clear hb hbox hg hBa hBox hGx)
        have HB1 := Aside0.mk (show Below wr.heap.size wr (((wa.setCell ⟨gx, 0, none⟩ (.int .i64 m)).setCell ⟨gx, 1, none⟩ (.slice A1 g.length c1)).setCell ⟨gx, 2, none⟩ (.int .i64 (q : Int))) from ((HBa.out.setCell (p := ⟨gx, 0, none⟩) (by rw [HGx.out]; exact Nat.le_refl _) _).setCell (p := ⟨gx, 1, none⟩) (by rw [HGx.out]; exact Nat.le_refl _) _).setCell (p := ⟨gx, 2, none⟩) (by rw [HGx.out]; exact Nat.le_refl _) _)
        have HX := Aside0.mk (show (((wa.setCell ⟨gx, 0, none⟩ (.int .i64 m)).setCell ⟨gx, 1, none⟩ (.slice A1 g.length c1)).setCell ⟨gx, 2, none⟩ (.int .i64 (q : Int))).heap[gx]? = some (.cells #[.int .i64 m, .slice A1 g.length c1, .int .i64 (q : Int)] 78 (0, 0)) from blk_put (cs := #[.int .i64 m, .slice A1 g.length c1, .int .i64 0]) (blk_put (cs := #[.int .i64 m, .slice none 0 0, .int .i64 0]) (blk_put (cs := #[.int .i64 0, .slice none 0 0, .int .i64 0]) HBox.out 0 _ rfl) 1 _ rfl) 2 _ rfl)
        clear x0 x1 x2 xf0 xf1 xf2 HBa HBox HGx z0 z1 z2
        generalize (((wa.setCell ⟨gx, 0, none⟩ (.int .i64 m)).setCell ⟨gx, 1, none⟩ (.slice A1 g.length c1)).setCell ⟨gx, 2, none⟩ (.int .i64 (q : Int))) = w1 at HB1 HX ⊢
        have HB2 := Aside0.mk (below_step HB.out HB1.out)
        have x1 : w1.cell? ⟨gx, 1, none⟩ = some (.slice A1 g.length c1) := (blk_cell HX.out 1).trans rfl
        go_wp2_with fail
        refine (IH.out (dpL g) (by have h1 := HDx.out; have h2 := HD.out; omega) g A1 c1 w1 (Nat.le_refl _) HOx.out.2.2 (Kd.C_below HI.out HB2.out)).mono ?_
        rintro e w2 ⟨rfl, hb2⟩
        have HXq := Aside0.mk (blk_below HX.out hb2)
        have HB3 := Aside0.mk (below_step HB2.out hb2)
        rw [HSb1.out]
        clear hb2 x1 HX
        have x2 : w2.cell? ⟨gx, 2, none⟩ = some (.int .i64 (q : Int)) := (blk_cell HXq.out 2).trans rfl
        by_cases hov : 1048577 < s
        · have hr : r = 1048577 := by rw [← HR.out, if_pos hov]
          subst hr
          go_wp2
          go_roundw
          case measure => have := HLt.out; simp [intOf]; omega
          case rel => exact ⟨i + 1, by have := HLt.out; omega, by rw [HS.out], by go_num, HB3⟩
        · have hr : r = s := by rw [← HR.out, if_neg hov]
          subst hr
          go_wp2
          go_roundw
          case measure => have := HLt.out; simp [intOf]; omega
          case rel => exact ⟨i + 1, by have := HLt.out; omega, by rw [HS.out], by go_num, HB3⟩
    · have heq : i = l.length := by omega
      subst heq
      rw [List.take_length]
      go_wp2
      go_ret
      exact ⟨rfl, HB.out⟩
end Go.Proofs.YtjlbimnafbngaaaDoor.Dec
