/- The law ScriptRound: what it answers. -/
import Derived.Test.YtjlbimnafbngaaaDoorDecRound
import Derived.Test.YtjlbimnafbngaaaDoorDecWalk
import Derived.Test.YtjlbimnafbngaaaDoorMarks
namespace Go.Proofs.YtjlbimnafbngaaaDoor.Dec
open Go.RowKit Go.Proofs.YtjlbimnafbngaaaDoorW.PrintWords Go.Proofs.YtjlbimnafbngaaaDoorW.PrintLast Go.Proofs.YtjlbimnafbngaaaDoorW.PrintMore Go.Proofs.YtjlbimnafbngaaaDoor.BitMath Go.Proofs.YtjlbimnafbngaaaDoor.Fmt
open Go.Proofs.YtjlbimnafbngaaaDoor.Enc (textL encF encode_calls same_calls)
open Go.Proofs.YtjlbimnafbngaaaDoor.ParseLaw (size_len)
set_option linter.unusedVariables false
set_option linter.unusedSimpArgs false
/-- What Encode answers, for lists of any length. -/
def encAny (l0 l1 : List Int) : ByteArray × Int := if 1048576 < l0.length ∨ 1048576 < l1.length then (⟨#[]⟩, 2) else encF l0 l1
theorem enc_facts {l0 l1 : List Int} (h0 : ∀ x ∈ l0, In64 x) (h1 : ∀ x ∈ l1, In64 x) : ((encAny l0 l1).2 = 0 ∧ (encAny l0 l1).1.data.toList = textL l0 l1 ∧ (encAny l0 l1).1.size ≤ 65536 ∧ decF (encAny l0 l1).1.data.toList = ((l0, l1), (0, 0)) ∧ l0.length ≤ 1048576 ∧ l1.length ≤ 1048576) ∨ ((encAny l0 l1).2 = 2 ∧ (encAny l0 l1).1 = ⟨#[]⟩ ∧ 2800 ≤ l0.length + l1.length) := by
  unfold encAny
  split
  · right; exact ⟨rfl, rfl, by omega⟩
  · rename_i hn
    unfold encF
    split
    · rename_i hl
      right
      have := text_bound l0 l1 h0 h1 (by omega) (by omega)
      exact ⟨rfl, rfl, by omega⟩
    · rename_i hl
      left
      have hl2 : (textL l0 l1).length ≤ 65536 := by omega
      refine ⟨rfl, rfl, ?_, dec_enc l0 l1 h0 h1 (by omega) (by omega) hl2, by omega, by omega⟩
      show (textL l0 l1).toArray.size ≤ 65536
      simpa using hl2
set_option maxHeartbeats 4000000 in
set_option maxRecDepth 100000 in
theorem encode_any (A0 : Option Addr) (c0 : Nat) (l0 : List Int) (A1 : Option Addr) (c1 : Nat) (l1 : List Int) (w : World) (hr0 : Kd.C (Kd.int .i64) w A0 l0.length l0) (hr1 : Kd.C (Kd.int .i64) w A1 l1.length l1) (hT : PowAt w) (hw0 : ∀ x, x ∈ l0 → In64 x) (hw1 : ∀ x, x ∈ l1 → In64 x) :
    Calls Tryd.prog 7 #[.agg #[.slice A0 l0.length c0, .slice A1 l1.length c1]] w fun e w' => e = .returned (.tuple #[.string (encAny l0 l1).1, .int .i64 (encAny l0 l1).2]) ∧ Below w.heap.size w w' := by
  by_cases hl : 1048576 < l0.length ∨ 1048576 < l1.length
  · unfold encAny
    rw [if_pos hl]
    have hu24 := Tryd.underlying24
    by_cases h0 : 1048576 < l0.length
    · have hI0 : (1048576 : Int) < (l0.length : Int) := by omega
      have d0 : decide ((l0.length : Int) > 1048576) = true := decide_eq_true (by omega)
      go_enter Tryd.func7, Tryd.ntmps7
      go_wp2_with ((with_reducible refine gate_dst (N := 1) rfl ?_); refine box_event ?hg (N := 1) ?hd (cs := #[.slice A0 l0.length c0, .slice A1 l1.length c1]) (t := 24) ?hr ?_; (case hd => rfl); (case hg => rfl); (case hr => first | (go_simp; done) | (go_simp; rfl)); intro gb hg w1 hbox hb; have HB1 := Aside0.mk hb; have x0 : w1.cell? ⟨gb, 0, none⟩ = some (.slice A0 l0.length c0) := (blk_cell hbox 0).trans rfl; have x1 : w1.cell? ⟨gb, 1, none⟩ = some (.slice A1 l1.length c1) := (blk_cell hbox 1).trans rfl; clear hbox hb hg)
      go_ret2
      exact ⟨rfl, HB1.out⟩
    · have hI0 : (l0.length : Int) ≤ 1048576 := by omega
      have d0 : decide ((l0.length : Int) > 1048576) = false := decide_eq_false (by omega)
      have hI1 : (1048576 : Int) < (l1.length : Int) := by omega
      have d1 : decide ((l1.length : Int) > 1048576) = true := decide_eq_true (by omega)
      go_enter Tryd.func7, Tryd.ntmps7
      go_wp2_with ((with_reducible refine gate_dst (N := 1) rfl ?_); refine box_event ?hg (N := 1) ?hd (cs := #[.slice A0 l0.length c0, .slice A1 l1.length c1]) (t := 24) ?hr ?_; (case hd => rfl); (case hg => rfl); (case hr => first | (go_simp; done) | (go_simp; rfl)); intro gb hg w1 hbox hb; have HB1 := Aside0.mk hb; have x0 : w1.cell? ⟨gb, 0, none⟩ = some (.slice A0 l0.length c0) := (blk_cell hbox 0).trans rfl; have x1 : w1.cell? ⟨gb, 1, none⟩ = some (.slice A1 l1.length c1) := (blk_cell hbox 1).trans rfl; clear hbox hb hg)
      go_ret2
      exact ⟨rfl, HB1.out⟩
  · unfold encAny
    rw [if_neg hl]
    exact encode_calls A0 c0 l0 A1 c1 l1 w hr0 hr1 hT hw0 hw1 (by omega) (by omega)
theorem str_same (s : ByteArray) : (s.toList == s.toList) = true := by simp
set_option maxHeartbeats 16000000 in
set_option maxRecDepth 100000 in
theorem round_calls (A0 : Option Addr) (c0 : Nat) (l0 : List Int) (A1 : Option Addr) (c1 : Nat) (l1 : List Int) (X : ByteArray) (w : World) (h00 : Kd.C (Kd.int .i64) w A0 l0.length l0) (h01 : l0.length ≤ c0) (h10 : Kd.C (Kd.int .i64) w A1 l1.length l1) (h11 : l1.length ≤ c1) (hX : X.size ≤ 9223372036854775807) (hw0 : ∀ x, x ∈ l0 → In64 x) (hw1 : ∀ x, x ∈ l1 → In64 x) (hT : PowAt w) (hmx : l0.length + l1.length ≤ 9223372036854775807) :
    Calls Tryd.prog 5 #[.agg #[.slice A0 l0.length c0, .slice A1 l1.length c1], .string X] w fun e w' => e = .returned (.bool true) ∧ Below w.heap.size w w' := by
  have hu24 := Tryd.underlying24
  have hu34 := Tryd.underlying34
  have H0 := Aside0.mk (And.intro h00 h01)
  have H1 := Aside0.mk (And.intro h10 h11)
  have HPow := Aside0.mk hT
  have HX := Aside0.mk hX
  have HMx := Aside0.mk hmx
  clear hmx
  have HW0 := Aside0.mk hw0
  have HW1 := Aside0.mk hw1
  have HE := Aside0.mk (enc_facts hw0 hw1)
  have HD := Aside0.mk (dec_facts X.data.toList)
  have hlm0 : (l0.length : Int) ≤ 9223372036854775807 := by have := h00.2.1; omega
  have hlm1 : (l1.length : Int) ≤ 9223372036854775807 := by have := h10.2.1; omega
  clear h00 h01 h10 h11 hX hw0 hw1 hT
  go_enter Tryd.func5, Tryd.ntmps5
  go_wp2_with ((with_reducible refine gate_dst (N := 2) rfl ?_); refine box_event ?hg (N := 2) ?hd (cs := #[.slice A0 l0.length c0, .slice A1 l1.length c1]) (t := 24) ?hr ?_; (case hd => rfl); (case hg => rfl); (case hr => first | (go_simp; done) | (go_simp; rfl)); intro gk hg w1 hbox hb; have HK := Aside0.mk hbox; have HB1 := Aside0.mk hb; clear hbox hb hg; have x0 : w1.cell? ⟨gk, 0, none⟩ = some (.slice A0 l0.length c0) := (blk_cell HK.out 0).trans rfl; have x1 : w1.cell? ⟨gk, 1, none⟩ = some (.slice A1 l1.length c1) := (blk_cell HK.out 1).trans rfl)
  refine (encode_any A0 c0 l0 A1 c1 l1 w1 (Kd.C_below H0.out.1 HB1.out) (Kd.C_below H1.out.1 HB1.out) (HPow.out.below HB1.out) HW0.out HW1.out).mono ?_
  rintro e w2 ⟨rfl, hb⟩
  obtain ⟨⟨S, er⟩, hS⟩ : ∃ r, encAny l0 l1 = r := ⟨_, rfl⟩
  rw [hS] at HE ⊢
  dsimp only at HE ⊢
  have HB2 := Aside0.mk (below_step HB1.out hb)
  have HK2 := Aside0.mk (blk_below HK.out hb)
  clear hb hS x0 x1 HK HB1
  rcases HE.out with ⟨rfl, hE1, hE2, hE3, hE4, hE5⟩ | ⟨rfl, rfl, hE1⟩
  · have HF0 := Aside0.mk (And.intro hE2 (And.intro hE3 (And.intro hE4 hE5)))
    clear hE1 hE2 hE3 hE4 hE5
    go_wp2_with fail
    refine (decode_calls S (by have := HF0.out.1; omega) w2 (HPow.out.below HB2.out)).mono ?_
    rintro e w21 hdend
    rw [HF0.out.2.1] at hdend
    obtain ⟨v2, v3, rfl, hR2, hR3, hb⟩ := hdend
    dsimp only at hR2 hR3 ⊢
    obtain ⟨B2, k2, rfl⟩ := Kd.R_slice hR2
    obtain ⟨B3, k3, rfl⟩ := Kd.R_slice hR3
    have HB21 := Aside0.mk (below_step HB2.out hb)
    have HK21 := Aside0.mk (blk_below HK2.out hb)
    have HC2 := Aside0.mk (And.intro (Kd.R_reads' hR2).2.2 (Kd.R_reads' hR2).2.1)
    have HC3 := Aside0.mk (And.intro (Kd.R_reads' hR3).2.2 (Kd.R_reads' hR3).2.1)
    clear hR2 hR3 hb HK2
    go_upto_region 4 with (first | ((with_reducible refine gate_dst (N := 7) rfl ?_); refine box_event ?hg (N := 7) ?hd (cs := #[.slice none 0 0, .slice none 0 0]) (t := 24) ?hr ?_; (case hd => rfl); (case hg => rfl); (case hr => first | (go_simp; done) | (go_simp; rfl)); intro gc hg wc_ hbox hb; have HQ1 := Aside0.mk hbox; have HBa := Aside0.mk (below_step HB21.out hb); have HGa := Aside0.mk (show w.heap.size ≤ gc from by rw [hg]; exact below_size HB21.out); have HGa2 := Aside0.mk (show w21.heap.size ≤ gc from by rw [hg]; exact Nat.le_refl _); have HStep1 := Aside0.mk hb; clear hbox hb hg) | ((with_reducible refine gate_dst (N := 8) rfl ?_); refine box_event ?hg (N := 8) ?hd (cs := #[.int .i64 0, .int .i64 0]) (t := 34) ?hr ?_; (case hd => rfl); (case hg => rfl); (case hr => first | (go_simp; done) | (go_simp; rfl)); intro gd hg wd_ hbox hb; have HQ1_ := Aside0.mk (blk_below HQ1.out hb); have HQ2 := Aside0.mk hbox; have HBb := Aside0.mk (below_step HBa.out hb); have HGb := Aside0.mk (show w.heap.size ≤ gd from by rw [hg]; exact below_size HBa.out); have HGb2 := Aside0.mk (show w21.heap.size ≤ gd from by rw [hg]; exact below_size HStep1.out); have HStep := Aside0.mk (below_step HStep1.out hb); have HNe := Aside0.mk (show gc ≠ gd from by rw [hg]; exact Nat.ne_of_lt (blk_lt HQ1.out)); clear hbox hb hg HQ1 HStep1; have HQ1 := HQ1_; clear HQ1_; have hne := HNe.out; have hne2 : gd ≠ gc := fun e => hne e.symm; have s0 : wd_.cell? ⟨gc, 0, none⟩ = some (.slice none 0 0) := (blk_cell HQ1.out 0).trans rfl; have s1 : wd_.cell? ⟨gc, 1, none⟩ = some (.slice none 0 0) := (blk_cell HQ1.out 1).trans rfl; have sf0 := blk_frozen HQ1.out 0; have sf1 := blk_frozen HQ1.out 1; have p0 : wd_.cell? ⟨gd, 0, none⟩ = some (.int .i64 0) := (blk_cell HQ2.out 0).trans rfl; have p1 : wd_.cell? ⟨gd, 1, none⟩ = some (.int .i64 0) := (blk_cell HQ2.out 1).trans rfl; have pf0 := blk_frozen HQ2.out 0; have pf1 := blk_frozen HQ2.out 1))
    have HB22 := Aside0.mk (show Below w.heap.size w ((((wd_.setCell ⟨gc, 0, none⟩ (.slice B2 l0.length k2)).setCell ⟨gc, 1, none⟩ (.slice B3 l1.length k3)).setCell ⟨gd, 0, none⟩ (.int .i64 0)).setCell ⟨gd, 1, none⟩ (.int .i64 0)) from (((HBb.out.setCell (p := ⟨gc, 0, none⟩) HGa.out _).setCell (p := ⟨gc, 1, none⟩) HGa.out _).setCell (p := ⟨gd, 0, none⟩) HGb.out _).setCell (p := ⟨gd, 1, none⟩) HGb.out _)
    have HQc := Aside0.mk (show ((((wd_.setCell ⟨gc, 0, none⟩ (.slice B2 l0.length k2)).setCell ⟨gc, 1, none⟩ (.slice B3 l1.length k3)).setCell ⟨gd, 0, none⟩ (.int .i64 0)).setCell ⟨gd, 1, none⟩ (.int .i64 0)).heap[gc]? = some (.cells #[.slice B2 l0.length k2, .slice B3 l1.length k3] 24 (0, 0)) from blk_far (blk_far (blk_put (cs := #[.slice B2 l0.length k2, .slice none 0 0]) (blk_put (cs := #[.slice none 0 0, .slice none 0 0]) HQ1.out 0 _ rfl) 1 _ rfl) HNe.out _) HNe.out _)
    have HQd := Aside0.mk (show ((((wd_.setCell ⟨gc, 0, none⟩ (.slice B2 l0.length k2)).setCell ⟨gc, 1, none⟩ (.slice B3 l1.length k3)).setCell ⟨gd, 0, none⟩ (.int .i64 0)).setCell ⟨gd, 1, none⟩ (.int .i64 0)).heap[gd]? = some (.cells #[.int .i64 0, .int .i64 0] 34 (0, 0)) from blk_put (cs := #[.int .i64 0, .int .i64 0]) (blk_put (cs := #[.int .i64 0, .int .i64 0]) (blk_far (blk_far HQ2.out HNe.out.symm _) HNe.out.symm _) 0 _ rfl) 1 _ rfl)
    have HCs := Aside0.mk (show Below w21.heap.size w21 ((((wd_.setCell ⟨gc, 0, none⟩ (.slice B2 l0.length k2)).setCell ⟨gc, 1, none⟩ (.slice B3 l1.length k3)).setCell ⟨gd, 0, none⟩ (.int .i64 0)).setCell ⟨gd, 1, none⟩ (.int .i64 0)) from (((HStep.out.setCell (p := ⟨gc, 0, none⟩) HGa2.out _).setCell (p := ⟨gc, 1, none⟩) HGa2.out _).setCell (p := ⟨gd, 0, none⟩) HGb2.out _).setCell (p := ⟨gd, 1, none⟩) HGb2.out _)
    clear s0 s1 p0 p1 sf0 sf1 pf0 pf1 hne hne2 HBb HBa HQ1 HQ2
    generalize ((((wd_.setCell ⟨gc, 0, none⟩ (.slice B2 l0.length k2)).setCell ⟨gc, 1, none⟩ (.slice B3 l1.length k3)).setCell ⟨gd, 0, none⟩ (.int .i64 0)).setCell ⟨gd, 1, none⟩ (.int .i64 0)) = w22 at HB22 HQc HQd HCs ⊢
    replace HC2 := Aside0.mk (And.intro (Kd.C_below HC2.out.1 HCs.out) HC2.out.2)
    replace HC3 := Aside0.mk (And.intro (Kd.C_below HC3.out.1 HCs.out) HC3.out.2)
    have HK22 := Aside0.mk (blk_below HK21.out HCs.out)
    have s0 : w22.cell? ⟨gc, 0, none⟩ = some (.slice B2 l0.length k2) := (blk_cell HQc.out 0).trans rfl
    have s1 : w22.cell? ⟨gc, 1, none⟩ = some (.slice B3 l1.length k3) := (blk_cell HQc.out 1).trans rfl
    have p0 : w22.cell? ⟨gd, 0, none⟩ = some (.int .i64 0) := (blk_cell HQd.out 0).trans rfl
    have p1 : w22.cell? ⟨gd, 1, none⟩ = some (.int .i64 0) := (blk_cell HQd.out 1).trans rfl
    have x0 : w22.cell? ⟨gk, 0, none⟩ = some (.slice A0 l0.length c0) := (blk_cell HK22.out 0).trans rfl
    have x1 : w22.cell? ⟨gk, 1, none⟩ = some (.slice A1 l1.length c1) := (blk_cell HK22.out 1).trans rfl
    go_wp2_with fail
    refine (same_calls B2 B3 A0 A1 l0.length l1.length k2 k3 c0 c1 l0 l1 w22 rfl rfl HC2.out.1 HC2.out.2 HC3.out.1 HC3.out.2 (Kd.C_below H0.out.1 HB22.out) H0.out.2 (Kd.C_below H1.out.1 HB22.out) H1.out.2 (by have := HF0.out.2.2.1; omega) (by have := HF0.out.2.2.2; omega)).mono ?_
    rintro e w23 ⟨rfl, hb⟩
    have HB23 := Aside0.mk (below_step HB22.out hb)
    clear hb s0 s1 p0 p1 x0 x1 HGa HGb HNe HStep HGa2 HGb2 HCs HQc HQd HK22 HC2 HC3
    go_wp2_with fail
    refine (decode_calls X HX.out w23 (HPow.out.below HB23.out)).mono ?_
    rintro e wq1 hdend
    obtain ⟨v0, v1, rfl, hR0, hR1, hb⟩ := hdend
    obtain ⟨⟨⟨a, b⟩, ⟨e1, e2⟩⟩, hDD⟩ : ∃ r, decF X.data.toList = r := ⟨_, rfl⟩
    rw [hDD] at hR0 hR1 HD ⊢
    dsimp only at hR0 hR1 HD ⊢
    obtain ⟨B0, k0, rfl⟩ := Kd.R_slice hR0
    obtain ⟨B1, k1, rfl⟩ := Kd.R_slice hR1
    have HBq1 := Aside0.mk (below_step HB23.out hb)
    have HC0 := Aside0.mk (And.intro (Kd.R_reads' hR0).2.2 (Kd.R_reads' hR0).2.1)
    have HC1 := Aside0.mk (And.intro (Kd.R_reads' hR1).2.2 (Kd.R_reads' hR1).2.1)
    clear hR0 hR1 hb hDD
    go_upto_region 9 with (first | ((with_reducible refine gate_dst (N := 9) rfl ?_); refine box_event ?hg (N := 9) ?hd (cs := #[.slice none 0 0, .slice none 0 0]) (t := 24) ?hr ?_; (case hd => rfl); (case hg => rfl); (case hr => first | (go_simp; done) | (go_simp; rfl)); intro ga hg wa hbox hb; have HQ1 := Aside0.mk hbox; have HBa := Aside0.mk (below_step HBq1.out hb); have HGa := Aside0.mk (show w.heap.size ≤ ga from by rw [hg]; exact below_size HBq1.out); have HGa2 := Aside0.mk (show wq1.heap.size ≤ ga from by rw [hg]; exact Nat.le_refl _); have HStep1 := Aside0.mk hb; clear hbox hb hg) | ((with_reducible refine gate_dst (N := 10) rfl ?_); refine box_event ?hg (N := 10) ?hd (cs := #[.int .i64 0, .int .i64 0]) (t := 34) ?hr ?_; (case hd => rfl); (case hg => rfl); (case hr => first | (go_simp; done) | (go_simp; rfl)); intro gb hg wb hbox hb; have HQ1_ := Aside0.mk (blk_below HQ1.out hb); have HQ2 := Aside0.mk hbox; have HBb := Aside0.mk (below_step HBa.out hb); have HGb := Aside0.mk (show w.heap.size ≤ gb from by rw [hg]; exact below_size HBa.out); have HGb2 := Aside0.mk (show wq1.heap.size ≤ gb from by rw [hg]; exact below_size HStep1.out); have HStep := Aside0.mk (below_step HStep1.out hb); have HNe := Aside0.mk (show ga ≠ gb from by rw [hg]; exact Nat.ne_of_lt (blk_lt HQ1.out)); clear hbox hb hg HQ1 HStep1; have HQ1 := HQ1_; clear HQ1_; have hne := HNe.out; have hne2 : gb ≠ ga := fun e => hne e.symm; have s0 : wb.cell? ⟨ga, 0, none⟩ = some (.slice none 0 0) := (blk_cell HQ1.out 0).trans rfl; have s1 : wb.cell? ⟨ga, 1, none⟩ = some (.slice none 0 0) := (blk_cell HQ1.out 1).trans rfl; have sf0 := blk_frozen HQ1.out 0; have sf1 := blk_frozen HQ1.out 1; have p0 : wb.cell? ⟨gb, 0, none⟩ = some (.int .i64 0) := (blk_cell HQ2.out 0).trans rfl; have p1 : wb.cell? ⟨gb, 1, none⟩ = some (.int .i64 0) := (blk_cell HQ2.out 1).trans rfl; have pf0 := blk_frozen HQ2.out 0; have pf1 := blk_frozen HQ2.out 1))
    have HB_ := Aside0.mk (show Below w.heap.size w ((((wb.setCell ⟨ga, 0, none⟩ (.slice B0 a.length k0)).setCell ⟨ga, 1, none⟩ (.slice B1 b.length k1)).setCell ⟨gb, 0, none⟩ (.int .i64 e1)).setCell ⟨gb, 1, none⟩ (.int .i64 e2)) from (((HBb.out.setCell (p := ⟨ga, 0, none⟩) HGa.out _).setCell (p := ⟨ga, 1, none⟩) HGa.out _).setCell (p := ⟨gb, 0, none⟩) HGb.out _).setCell (p := ⟨gb, 1, none⟩) HGb.out _)
    have HQa := Aside0.mk (show ((((wb.setCell ⟨ga, 0, none⟩ (.slice B0 a.length k0)).setCell ⟨ga, 1, none⟩ (.slice B1 b.length k1)).setCell ⟨gb, 0, none⟩ (.int .i64 e1)).setCell ⟨gb, 1, none⟩ (.int .i64 e2)).heap[ga]? = some (.cells #[.slice B0 a.length k0, .slice B1 b.length k1] 24 (0, 0)) from blk_far (blk_far (blk_put (cs := #[.slice B0 a.length k0, .slice none 0 0]) (blk_put (cs := #[.slice none 0 0, .slice none 0 0]) HQ1.out 0 _ rfl) 1 _ rfl) HNe.out _) HNe.out _)
    have HQb := Aside0.mk (show ((((wb.setCell ⟨ga, 0, none⟩ (.slice B0 a.length k0)).setCell ⟨ga, 1, none⟩ (.slice B1 b.length k1)).setCell ⟨gb, 0, none⟩ (.int .i64 e1)).setCell ⟨gb, 1, none⟩ (.int .i64 e2)).heap[gb]? = some (.cells #[.int .i64 e1, .int .i64 e2] 34 (0, 0)) from blk_put (cs := #[.int .i64 e1, .int .i64 0]) (blk_put (cs := #[.int .i64 0, .int .i64 0]) (blk_far (blk_far HQ2.out HNe.out.symm _) HNe.out.symm _) 0 _ rfl) 1 _ rfl)
    have HCs := Aside0.mk (show Below wq1.heap.size wq1 ((((wb.setCell ⟨ga, 0, none⟩ (.slice B0 a.length k0)).setCell ⟨ga, 1, none⟩ (.slice B1 b.length k1)).setCell ⟨gb, 0, none⟩ (.int .i64 e1)).setCell ⟨gb, 1, none⟩ (.int .i64 e2)) from (((HStep.out.setCell (p := ⟨ga, 0, none⟩) HGa2.out _).setCell (p := ⟨ga, 1, none⟩) HGa2.out _).setCell (p := ⟨gb, 0, none⟩) HGb2.out _).setCell (p := ⟨gb, 1, none⟩) HGb2.out _)
    clear s0 s1 p0 p1 sf0 sf1 pf0 pf1 hne hne2 HBb HBa HQ1 HQ2
    generalize ((((wb.setCell ⟨ga, 0, none⟩ (.slice B0 a.length k0)).setCell ⟨ga, 1, none⟩ (.slice B1 b.length k1)).setCell ⟨gb, 0, none⟩ (.int .i64 e1)).setCell ⟨gb, 1, none⟩ (.int .i64 e2)) = w3 at HB_ HQa HQb HCs ⊢
    replace HC0 := Aside0.mk (And.intro (Kd.C_below HC0.out.1 HCs.out) HC0.out.2)
    replace HC1 := Aside0.mk (And.intro (Kd.C_below HC1.out.1 HCs.out) HC1.out.2)
    have s0 : w3.cell? ⟨ga, 0, none⟩ = some (.slice B0 a.length k0) := (blk_cell HQa.out 0).trans rfl
    have s1 : w3.cell? ⟨ga, 1, none⟩ = some (.slice B1 b.length k1) := (blk_cell HQa.out 1).trans rfl
    have p0 : w3.cell? ⟨gb, 0, none⟩ = some (.int .i64 e1) := (blk_cell HQb.out 0).trans rfl
    have p1 : w3.cell? ⟨gb, 1, none⟩ = some (.int .i64 e2) := (blk_cell HQb.out 1).trans rfl
    rcases HD.out with ⟨rfl, hD1, hD2, hD3, hD4⟩ | ⟨hD0, rfl, rfl⟩
    · have HI0 := Aside0.mk hD1
      have HI1 := Aside0.mk hD2
      have HE2 := Aside0.mk (enc_facts hD1 hD2)
      clear hD1 hD2 hD3 hD4
      go_wp2_with fail
      refine (encode_any B0 k0 a B1 k1 b w3 HC0.out.1 HC1.out.1 (HPow.out.below HB_.out) HI0.out HI1.out).mono ?_
      rintro e w4 ⟨rfl, hb⟩
      obtain ⟨⟨U, eu⟩, hU⟩ : ∃ r, encAny a b = r := ⟨_, rfl⟩
      rw [hU] at HE2 ⊢
      dsimp only at HE2 ⊢
      have HU := Aside0.mk hU
      have HB4 := Aside0.mk (below_step HB_.out hb)
      have HQ4 := Aside0.mk (blk_below HQa.out hb)
      replace HC0 := Aside0.mk (And.intro (Kd.C_below HC0.out.1 hb) HC0.out.2)
      replace HC1 := Aside0.mk (And.intro (Kd.C_below HC1.out.1 hb) HC1.out.2)
      clear hb hU s0 s1 p0 p1 HQa HQb
      rcases HE2.out with ⟨rfl, hF1, hF2, hF3, hF4, hF5⟩ | ⟨rfl, rfl, hF1⟩
      · have HF := Aside0.mk (And.intro hF2 (And.intro hF3 (And.intro hF4 hF5)))
        clear hF1 hF2 hF3 hF4 hF5
        go_wp2_with fail
        refine (decode_calls U (by have := HF.out.1; omega) w4 (HPow.out.below HB4.out)).mono ?_
        rintro e w5 hdend
        rw [HF.out.2.1] at hdend
        obtain ⟨v2, v3, rfl, hR2, hR3, hb⟩ := hdend
        dsimp only at hR2 hR3 ⊢
        obtain ⟨B2, k2, rfl⟩ := Kd.R_slice hR2
        obtain ⟨B3, k3, rfl⟩ := Kd.R_slice hR3
        have HB5 := Aside0.mk (below_step HB4.out hb)
        have HQ5 := Aside0.mk (blk_below HQ4.out hb)
        replace HC0 := Aside0.mk (And.intro (Kd.C_below HC0.out.1 hb) HC0.out.2)
        replace HC1 := Aside0.mk (And.intro (Kd.C_below HC1.out.1 hb) HC1.out.2)
        have HC2 := Aside0.mk (And.intro (Kd.R_reads' hR2).2.2 (Kd.R_reads' hR2).2.1)
        have HC3 := Aside0.mk (And.intro (Kd.R_reads' hR3).2.2 (Kd.R_reads' hR3).2.1)
        clear hR2 hR3 hb HGa HGb HNe HStep HGa2 HGb2 HCs HB_ HQ4
        go_upto_region 15 with (first | ((with_reducible refine gate_dst (N := 13) rfl ?_); refine box_event ?hg (N := 13) ?hd (cs := #[.slice none 0 0, .slice none 0 0]) (t := 24) ?hr ?_; (case hd => rfl); (case hg => rfl); (case hr => first | (go_simp; done) | (go_simp; rfl)); intro gc hg wc_ hbox hb; have HQ1 := Aside0.mk hbox; have HBa := Aside0.mk (below_step HB5.out hb); have HGa := Aside0.mk (show w.heap.size ≤ gc from by rw [hg]; exact below_size HB5.out); have HGa2 := Aside0.mk (show w5.heap.size ≤ gc from by rw [hg]; exact Nat.le_refl _); have HStep1 := Aside0.mk hb; clear hbox hb hg) | ((with_reducible refine gate_dst (N := 14) rfl ?_); refine box_event ?hg (N := 14) ?hd (cs := #[.int .i64 0, .int .i64 0]) (t := 34) ?hr ?_; (case hd => rfl); (case hg => rfl); (case hr => first | (go_simp; done) | (go_simp; rfl)); intro gd hg wd_ hbox hb; have HQ1_ := Aside0.mk (blk_below HQ1.out hb); have HQ2 := Aside0.mk hbox; have HBb := Aside0.mk (below_step HBa.out hb); have HGb := Aside0.mk (show w.heap.size ≤ gd from by rw [hg]; exact below_size HBa.out); have HGb2 := Aside0.mk (show w5.heap.size ≤ gd from by rw [hg]; exact below_size HStep1.out); have HStep := Aside0.mk (below_step HStep1.out hb); have HNe := Aside0.mk (show gc ≠ gd from by rw [hg]; exact Nat.ne_of_lt (blk_lt HQ1.out)); clear hbox hb hg HQ1 HStep1; have HQ1 := HQ1_; clear HQ1_; have hne := HNe.out; have hne2 : gd ≠ gc := fun e => hne e.symm; have s0 : wd_.cell? ⟨gc, 0, none⟩ = some (.slice none 0 0) := (blk_cell HQ1.out 0).trans rfl; have s1 : wd_.cell? ⟨gc, 1, none⟩ = some (.slice none 0 0) := (blk_cell HQ1.out 1).trans rfl; have sf0 := blk_frozen HQ1.out 0; have sf1 := blk_frozen HQ1.out 1; have p0 : wd_.cell? ⟨gd, 0, none⟩ = some (.int .i64 0) := (blk_cell HQ2.out 0).trans rfl; have p1 : wd_.cell? ⟨gd, 1, none⟩ = some (.int .i64 0) := (blk_cell HQ2.out 1).trans rfl; have pf0 := blk_frozen HQ2.out 0; have pf1 := blk_frozen HQ2.out 1))
        have HB6 := Aside0.mk (show Below w.heap.size w ((((wd_.setCell ⟨gc, 0, none⟩ (.slice B2 a.length k2)).setCell ⟨gc, 1, none⟩ (.slice B3 b.length k3)).setCell ⟨gd, 0, none⟩ (.int .i64 0)).setCell ⟨gd, 1, none⟩ (.int .i64 0)) from (((HBb.out.setCell (p := ⟨gc, 0, none⟩) HGa.out _).setCell (p := ⟨gc, 1, none⟩) HGa.out _).setCell (p := ⟨gd, 0, none⟩) HGb.out _).setCell (p := ⟨gd, 1, none⟩) HGb.out _)
        have HQc := Aside0.mk (show ((((wd_.setCell ⟨gc, 0, none⟩ (.slice B2 a.length k2)).setCell ⟨gc, 1, none⟩ (.slice B3 b.length k3)).setCell ⟨gd, 0, none⟩ (.int .i64 0)).setCell ⟨gd, 1, none⟩ (.int .i64 0)).heap[gc]? = some (.cells #[.slice B2 a.length k2, .slice B3 b.length k3] 24 (0, 0)) from blk_far (blk_far (blk_put (cs := #[.slice B2 a.length k2, .slice none 0 0]) (blk_put (cs := #[.slice none 0 0, .slice none 0 0]) HQ1.out 0 _ rfl) 1 _ rfl) HNe.out _) HNe.out _)
        have HQd := Aside0.mk (show ((((wd_.setCell ⟨gc, 0, none⟩ (.slice B2 a.length k2)).setCell ⟨gc, 1, none⟩ (.slice B3 b.length k3)).setCell ⟨gd, 0, none⟩ (.int .i64 0)).setCell ⟨gd, 1, none⟩ (.int .i64 0)).heap[gd]? = some (.cells #[.int .i64 0, .int .i64 0] 34 (0, 0)) from blk_put (cs := #[.int .i64 0, .int .i64 0]) (blk_put (cs := #[.int .i64 0, .int .i64 0]) (blk_far (blk_far HQ2.out HNe.out.symm _) HNe.out.symm _) 0 _ rfl) 1 _ rfl)
        have HCs := Aside0.mk (show Below w5.heap.size w5 ((((wd_.setCell ⟨gc, 0, none⟩ (.slice B2 a.length k2)).setCell ⟨gc, 1, none⟩ (.slice B3 b.length k3)).setCell ⟨gd, 0, none⟩ (.int .i64 0)).setCell ⟨gd, 1, none⟩ (.int .i64 0)) from (((HStep.out.setCell (p := ⟨gc, 0, none⟩) HGa2.out _).setCell (p := ⟨gc, 1, none⟩) HGa2.out _).setCell (p := ⟨gd, 0, none⟩) HGb2.out _).setCell (p := ⟨gd, 1, none⟩) HGb2.out _)
        clear s0 s1 p0 p1 sf0 sf1 pf0 pf1 hne hne2 HBb HBa HQ1 HQ2
        generalize ((((wd_.setCell ⟨gc, 0, none⟩ (.slice B2 a.length k2)).setCell ⟨gc, 1, none⟩ (.slice B3 b.length k3)).setCell ⟨gd, 0, none⟩ (.int .i64 0)).setCell ⟨gd, 1, none⟩ (.int .i64 0)) = w6 at HB6 HQc HQd HCs ⊢
        replace HC0 := Aside0.mk (And.intro (Kd.C_below HC0.out.1 HCs.out) HC0.out.2)
        replace HC1 := Aside0.mk (And.intro (Kd.C_below HC1.out.1 HCs.out) HC1.out.2)
        replace HC2 := Aside0.mk (And.intro (Kd.C_below HC2.out.1 HCs.out) HC2.out.2)
        replace HC3 := Aside0.mk (And.intro (Kd.C_below HC3.out.1 HCs.out) HC3.out.2)
        have HQ6 := Aside0.mk (blk_below HQ5.out HCs.out)
        have s0 : w6.cell? ⟨gc, 0, none⟩ = some (.slice B2 a.length k2) := (blk_cell HQc.out 0).trans rfl
        have s1 : w6.cell? ⟨gc, 1, none⟩ = some (.slice B3 b.length k3) := (blk_cell HQc.out 1).trans rfl
        go_wp2_with fail
        refine (encode_any B2 k2 a B3 k3 b w6 HC2.out.1 HC3.out.1 (HPow.out.below HB6.out) HI0.out HI1.out).mono ?_
        rintro e w7 ⟨rfl, hb⟩
        rw [HU.out]
        dsimp only
        have HB7 := Aside0.mk (below_step HB6.out hb)
        have HQ7 := Aside0.mk (blk_below HQ6.out hb)
        have HQc7 := Aside0.mk (blk_below HQc.out hb)
        have HQd7 := Aside0.mk (blk_below HQd.out hb)
        replace HC0 := Aside0.mk (And.intro (Kd.C_below HC0.out.1 hb) HC0.out.2)
        replace HC1 := Aside0.mk (And.intro (Kd.C_below HC1.out.1 hb) HC1.out.2)
        replace HC2 := Aside0.mk (And.intro (Kd.C_below HC2.out.1 hb) HC2.out.2)
        replace HC3 := Aside0.mk (And.intro (Kd.C_below HC3.out.1 hb) HC3.out.2)
        clear hb s0 s1
        have s0 : w7.cell? ⟨gc, 0, none⟩ = some (.slice B2 a.length k2) := (blk_cell HQc7.out 0).trans rfl
        have s1 : w7.cell? ⟨gc, 1, none⟩ = some (.slice B3 b.length k3) := (blk_cell HQc7.out 1).trans rfl
        have p0 : w7.cell? ⟨gd, 0, none⟩ = some (.int .i64 0) := (blk_cell HQd7.out 0).trans rfl
        have p1 : w7.cell? ⟨gd, 1, none⟩ = some (.int .i64 0) := (blk_cell HQd7.out 1).trans rfl
        have t0 : w7.cell? ⟨ga, 0, none⟩ = some (.slice B0 a.length k0) := (blk_cell HQ7.out 0).trans rfl
        have t1 : w7.cell? ⟨ga, 1, none⟩ = some (.slice B1 b.length k1) := (blk_cell HQ7.out 1).trans rfl
        have hstr := str_same U
        go_wp2_with fail
        refine (same_calls B0 B1 B2 B3 a.length b.length k0 k1 k2 k3 a b w7 rfl rfl HC0.out.1 HC0.out.2 HC1.out.1 HC1.out.2 HC2.out.1 HC2.out.2 HC3.out.1 HC3.out.2 (by have := HF.out.2.2.1; omega) (by have := HF.out.2.2.2; omega)).mono ?_
        rintro e w8 ⟨rfl, hb⟩
        have HB8 := Aside0.mk (below_step HB7.out hb)
        clear hb
        go_wp2
        go_ret
        exact ⟨by first | rfl | simp [hstr], HB8.out⟩
      · clear hF1
        go_wp2
        go_ret
        exact ⟨by first | rfl | simp, HB4.out⟩
    · have e1b : (e1 == 0) = false := beq_eq_false_iff_ne.mpr hD0
      have e1c : (e1 != 0) = true := bne_iff_ne.mpr hD0
      clear hD0
      go_wp2
      go_ret
      exact ⟨by first | rfl | simp, HB_.out⟩
  · have hE1I : (2800 : Int) ≤ (l0.length : Int) + (l1.length : Int) := by omega
    have hE1J : (l0.length : Int) + (l1.length : Int) ≤ 9223372036854775807 := by have h1 := HMx.out; omega
    clear hE1
    have x0 : w2.cell? ⟨gk, 0, none⟩ = some (.slice A0 l0.length c0) := (blk_cell HK2.out 0).trans rfl
    have x1 : w2.cell? ⟨gk, 1, none⟩ = some (.slice A1 l1.length c1) := (blk_cell HK2.out 1).trans rfl
    go_wp2_with fail
    clear x0 x1 hE1I hE1J
    refine (decode_calls X HX.out w2 (HPow.out.below HB2.out)).mono ?_
    rintro e wq1 hdend
    obtain ⟨v0, v1, rfl, hR0, hR1, hb⟩ := hdend
    obtain ⟨⟨⟨a, b⟩, ⟨e1, e2⟩⟩, hDD⟩ : ∃ r, decF X.data.toList = r := ⟨_, rfl⟩
    rw [hDD] at hR0 hR1 HD ⊢
    dsimp only at hR0 hR1 HD ⊢
    obtain ⟨B0, k0, rfl⟩ := Kd.R_slice hR0
    obtain ⟨B1, k1, rfl⟩ := Kd.R_slice hR1
    have HBq1 := Aside0.mk (below_step HB2.out hb)
    have HC0 := Aside0.mk (And.intro (Kd.R_reads' hR0).2.2 (Kd.R_reads' hR0).2.1)
    have HC1 := Aside0.mk (And.intro (Kd.R_reads' hR1).2.2 (Kd.R_reads' hR1).2.1)
    clear hR0 hR1 hb hDD
    go_upto_region 9 with (first | ((with_reducible refine gate_dst (N := 9) rfl ?_); refine box_event ?hg (N := 9) ?hd (cs := #[.slice none 0 0, .slice none 0 0]) (t := 24) ?hr ?_; (case hd => rfl); (case hg => rfl); (case hr => first | (go_simp; done) | (go_simp; rfl)); intro ga hg wa hbox hb; have HQ1 := Aside0.mk hbox; have HBa := Aside0.mk (below_step HBq1.out hb); have HGa := Aside0.mk (show w.heap.size ≤ ga from by rw [hg]; exact below_size HBq1.out); have HGa2 := Aside0.mk (show wq1.heap.size ≤ ga from by rw [hg]; exact Nat.le_refl _); have HStep1 := Aside0.mk hb; clear hbox hb hg) | ((with_reducible refine gate_dst (N := 10) rfl ?_); refine box_event ?hg (N := 10) ?hd (cs := #[.int .i64 0, .int .i64 0]) (t := 34) ?hr ?_; (case hd => rfl); (case hg => rfl); (case hr => first | (go_simp; done) | (go_simp; rfl)); intro gb hg wb hbox hb; have HQ1_ := Aside0.mk (blk_below HQ1.out hb); have HQ2 := Aside0.mk hbox; have HBb := Aside0.mk (below_step HBa.out hb); have HGb := Aside0.mk (show w.heap.size ≤ gb from by rw [hg]; exact below_size HBa.out); have HGb2 := Aside0.mk (show wq1.heap.size ≤ gb from by rw [hg]; exact below_size HStep1.out); have HStep := Aside0.mk (below_step HStep1.out hb); have HNe := Aside0.mk (show ga ≠ gb from by rw [hg]; exact Nat.ne_of_lt (blk_lt HQ1.out)); clear hbox hb hg HQ1 HStep1; have HQ1 := HQ1_; clear HQ1_; have hne := HNe.out; have hne2 : gb ≠ ga := fun e => hne e.symm; have s0 : wb.cell? ⟨ga, 0, none⟩ = some (.slice none 0 0) := (blk_cell HQ1.out 0).trans rfl; have s1 : wb.cell? ⟨ga, 1, none⟩ = some (.slice none 0 0) := (blk_cell HQ1.out 1).trans rfl; have sf0 := blk_frozen HQ1.out 0; have sf1 := blk_frozen HQ1.out 1; have p0 : wb.cell? ⟨gb, 0, none⟩ = some (.int .i64 0) := (blk_cell HQ2.out 0).trans rfl; have p1 : wb.cell? ⟨gb, 1, none⟩ = some (.int .i64 0) := (blk_cell HQ2.out 1).trans rfl; have pf0 := blk_frozen HQ2.out 0; have pf1 := blk_frozen HQ2.out 1))
    have HB_ := Aside0.mk (show Below w.heap.size w ((((wb.setCell ⟨ga, 0, none⟩ (.slice B0 a.length k0)).setCell ⟨ga, 1, none⟩ (.slice B1 b.length k1)).setCell ⟨gb, 0, none⟩ (.int .i64 e1)).setCell ⟨gb, 1, none⟩ (.int .i64 e2)) from (((HBb.out.setCell (p := ⟨ga, 0, none⟩) HGa.out _).setCell (p := ⟨ga, 1, none⟩) HGa.out _).setCell (p := ⟨gb, 0, none⟩) HGb.out _).setCell (p := ⟨gb, 1, none⟩) HGb.out _)
    have HQa := Aside0.mk (show ((((wb.setCell ⟨ga, 0, none⟩ (.slice B0 a.length k0)).setCell ⟨ga, 1, none⟩ (.slice B1 b.length k1)).setCell ⟨gb, 0, none⟩ (.int .i64 e1)).setCell ⟨gb, 1, none⟩ (.int .i64 e2)).heap[ga]? = some (.cells #[.slice B0 a.length k0, .slice B1 b.length k1] 24 (0, 0)) from blk_far (blk_far (blk_put (cs := #[.slice B0 a.length k0, .slice none 0 0]) (blk_put (cs := #[.slice none 0 0, .slice none 0 0]) HQ1.out 0 _ rfl) 1 _ rfl) HNe.out _) HNe.out _)
    have HQb := Aside0.mk (show ((((wb.setCell ⟨ga, 0, none⟩ (.slice B0 a.length k0)).setCell ⟨ga, 1, none⟩ (.slice B1 b.length k1)).setCell ⟨gb, 0, none⟩ (.int .i64 e1)).setCell ⟨gb, 1, none⟩ (.int .i64 e2)).heap[gb]? = some (.cells #[.int .i64 e1, .int .i64 e2] 34 (0, 0)) from blk_put (cs := #[.int .i64 e1, .int .i64 0]) (blk_put (cs := #[.int .i64 0, .int .i64 0]) (blk_far (blk_far HQ2.out HNe.out.symm _) HNe.out.symm _) 0 _ rfl) 1 _ rfl)
    have HCs := Aside0.mk (show Below wq1.heap.size wq1 ((((wb.setCell ⟨ga, 0, none⟩ (.slice B0 a.length k0)).setCell ⟨ga, 1, none⟩ (.slice B1 b.length k1)).setCell ⟨gb, 0, none⟩ (.int .i64 e1)).setCell ⟨gb, 1, none⟩ (.int .i64 e2)) from (((HStep.out.setCell (p := ⟨ga, 0, none⟩) HGa2.out _).setCell (p := ⟨ga, 1, none⟩) HGa2.out _).setCell (p := ⟨gb, 0, none⟩) HGb2.out _).setCell (p := ⟨gb, 1, none⟩) HGb2.out _)
    clear s0 s1 p0 p1 sf0 sf1 pf0 pf1 hne hne2 HBb HBa HQ1 HQ2
    generalize ((((wb.setCell ⟨ga, 0, none⟩ (.slice B0 a.length k0)).setCell ⟨ga, 1, none⟩ (.slice B1 b.length k1)).setCell ⟨gb, 0, none⟩ (.int .i64 e1)).setCell ⟨gb, 1, none⟩ (.int .i64 e2)) = w3 at HB_ HQa HQb HCs ⊢
    replace HC0 := Aside0.mk (And.intro (Kd.C_below HC0.out.1 HCs.out) HC0.out.2)
    replace HC1 := Aside0.mk (And.intro (Kd.C_below HC1.out.1 HCs.out) HC1.out.2)
    have s0 : w3.cell? ⟨ga, 0, none⟩ = some (.slice B0 a.length k0) := (blk_cell HQa.out 0).trans rfl
    have s1 : w3.cell? ⟨ga, 1, none⟩ = some (.slice B1 b.length k1) := (blk_cell HQa.out 1).trans rfl
    have p0 : w3.cell? ⟨gb, 0, none⟩ = some (.int .i64 e1) := (blk_cell HQb.out 0).trans rfl
    have p1 : w3.cell? ⟨gb, 1, none⟩ = some (.int .i64 e2) := (blk_cell HQb.out 1).trans rfl
    rcases HD.out with ⟨rfl, hD1, hD2, hD3, hD4⟩ | ⟨hD0, rfl, rfl⟩
    · have HI0 := Aside0.mk hD1
      have HI1 := Aside0.mk hD2
      have HE2 := Aside0.mk (enc_facts hD1 hD2)
      clear hD1 hD2 hD3 hD4
      go_wp2_with fail
      refine (encode_any B0 k0 a B1 k1 b w3 HC0.out.1 HC1.out.1 (HPow.out.below HB_.out) HI0.out HI1.out).mono ?_
      rintro e w4 ⟨rfl, hb⟩
      obtain ⟨⟨U, eu⟩, hU⟩ : ∃ r, encAny a b = r := ⟨_, rfl⟩
      rw [hU] at HE2 ⊢
      dsimp only at HE2 ⊢
      have HU := Aside0.mk hU
      have HB4 := Aside0.mk (below_step HB_.out hb)
      have HQ4 := Aside0.mk (blk_below HQa.out hb)
      replace HC0 := Aside0.mk (And.intro (Kd.C_below HC0.out.1 hb) HC0.out.2)
      replace HC1 := Aside0.mk (And.intro (Kd.C_below HC1.out.1 hb) HC1.out.2)
      clear hb hU s0 s1 p0 p1 HQa HQb
      rcases HE2.out with ⟨rfl, hF1, hF2, hF3, hF4, hF5⟩ | ⟨rfl, rfl, hF1⟩
      · have HF := Aside0.mk (And.intro hF2 (And.intro hF3 (And.intro hF4 hF5)))
        clear hF1 hF2 hF3 hF4 hF5
        go_wp2_with fail
        refine (decode_calls U (by have := HF.out.1; omega) w4 (HPow.out.below HB4.out)).mono ?_
        rintro e w5 hdend
        rw [HF.out.2.1] at hdend
        obtain ⟨v2, v3, rfl, hR2, hR3, hb⟩ := hdend
        dsimp only at hR2 hR3 ⊢
        obtain ⟨B2, k2, rfl⟩ := Kd.R_slice hR2
        obtain ⟨B3, k3, rfl⟩ := Kd.R_slice hR3
        have HB5 := Aside0.mk (below_step HB4.out hb)
        have HQ5 := Aside0.mk (blk_below HQ4.out hb)
        replace HC0 := Aside0.mk (And.intro (Kd.C_below HC0.out.1 hb) HC0.out.2)
        replace HC1 := Aside0.mk (And.intro (Kd.C_below HC1.out.1 hb) HC1.out.2)
        have HC2 := Aside0.mk (And.intro (Kd.R_reads' hR2).2.2 (Kd.R_reads' hR2).2.1)
        have HC3 := Aside0.mk (And.intro (Kd.R_reads' hR3).2.2 (Kd.R_reads' hR3).2.1)
        clear hR2 hR3 hb HGa HGb HNe HStep HGa2 HGb2 HCs HB_ HQ4
        go_upto_region 15 with (first | ((with_reducible refine gate_dst (N := 13) rfl ?_); refine box_event ?hg (N := 13) ?hd (cs := #[.slice none 0 0, .slice none 0 0]) (t := 24) ?hr ?_; (case hd => rfl); (case hg => rfl); (case hr => first | (go_simp; done) | (go_simp; rfl)); intro gc hg wc_ hbox hb; have HQ1 := Aside0.mk hbox; have HBa := Aside0.mk (below_step HB5.out hb); have HGa := Aside0.mk (show w.heap.size ≤ gc from by rw [hg]; exact below_size HB5.out); have HGa2 := Aside0.mk (show w5.heap.size ≤ gc from by rw [hg]; exact Nat.le_refl _); have HStep1 := Aside0.mk hb; clear hbox hb hg) | ((with_reducible refine gate_dst (N := 14) rfl ?_); refine box_event ?hg (N := 14) ?hd (cs := #[.int .i64 0, .int .i64 0]) (t := 34) ?hr ?_; (case hd => rfl); (case hg => rfl); (case hr => first | (go_simp; done) | (go_simp; rfl)); intro gd hg wd_ hbox hb; have HQ1_ := Aside0.mk (blk_below HQ1.out hb); have HQ2 := Aside0.mk hbox; have HBb := Aside0.mk (below_step HBa.out hb); have HGb := Aside0.mk (show w.heap.size ≤ gd from by rw [hg]; exact below_size HBa.out); have HGb2 := Aside0.mk (show w5.heap.size ≤ gd from by rw [hg]; exact below_size HStep1.out); have HStep := Aside0.mk (below_step HStep1.out hb); have HNe := Aside0.mk (show gc ≠ gd from by rw [hg]; exact Nat.ne_of_lt (blk_lt HQ1.out)); clear hbox hb hg HQ1 HStep1; have HQ1 := HQ1_; clear HQ1_; have hne := HNe.out; have hne2 : gd ≠ gc := fun e => hne e.symm; have s0 : wd_.cell? ⟨gc, 0, none⟩ = some (.slice none 0 0) := (blk_cell HQ1.out 0).trans rfl; have s1 : wd_.cell? ⟨gc, 1, none⟩ = some (.slice none 0 0) := (blk_cell HQ1.out 1).trans rfl; have sf0 := blk_frozen HQ1.out 0; have sf1 := blk_frozen HQ1.out 1; have p0 : wd_.cell? ⟨gd, 0, none⟩ = some (.int .i64 0) := (blk_cell HQ2.out 0).trans rfl; have p1 : wd_.cell? ⟨gd, 1, none⟩ = some (.int .i64 0) := (blk_cell HQ2.out 1).trans rfl; have pf0 := blk_frozen HQ2.out 0; have pf1 := blk_frozen HQ2.out 1))
        have HB6 := Aside0.mk (show Below w.heap.size w ((((wd_.setCell ⟨gc, 0, none⟩ (.slice B2 a.length k2)).setCell ⟨gc, 1, none⟩ (.slice B3 b.length k3)).setCell ⟨gd, 0, none⟩ (.int .i64 0)).setCell ⟨gd, 1, none⟩ (.int .i64 0)) from (((HBb.out.setCell (p := ⟨gc, 0, none⟩) HGa.out _).setCell (p := ⟨gc, 1, none⟩) HGa.out _).setCell (p := ⟨gd, 0, none⟩) HGb.out _).setCell (p := ⟨gd, 1, none⟩) HGb.out _)
        have HQc := Aside0.mk (show ((((wd_.setCell ⟨gc, 0, none⟩ (.slice B2 a.length k2)).setCell ⟨gc, 1, none⟩ (.slice B3 b.length k3)).setCell ⟨gd, 0, none⟩ (.int .i64 0)).setCell ⟨gd, 1, none⟩ (.int .i64 0)).heap[gc]? = some (.cells #[.slice B2 a.length k2, .slice B3 b.length k3] 24 (0, 0)) from blk_far (blk_far (blk_put (cs := #[.slice B2 a.length k2, .slice none 0 0]) (blk_put (cs := #[.slice none 0 0, .slice none 0 0]) HQ1.out 0 _ rfl) 1 _ rfl) HNe.out _) HNe.out _)
        have HQd := Aside0.mk (show ((((wd_.setCell ⟨gc, 0, none⟩ (.slice B2 a.length k2)).setCell ⟨gc, 1, none⟩ (.slice B3 b.length k3)).setCell ⟨gd, 0, none⟩ (.int .i64 0)).setCell ⟨gd, 1, none⟩ (.int .i64 0)).heap[gd]? = some (.cells #[.int .i64 0, .int .i64 0] 34 (0, 0)) from blk_put (cs := #[.int .i64 0, .int .i64 0]) (blk_put (cs := #[.int .i64 0, .int .i64 0]) (blk_far (blk_far HQ2.out HNe.out.symm _) HNe.out.symm _) 0 _ rfl) 1 _ rfl)
        have HCs := Aside0.mk (show Below w5.heap.size w5 ((((wd_.setCell ⟨gc, 0, none⟩ (.slice B2 a.length k2)).setCell ⟨gc, 1, none⟩ (.slice B3 b.length k3)).setCell ⟨gd, 0, none⟩ (.int .i64 0)).setCell ⟨gd, 1, none⟩ (.int .i64 0)) from (((HStep.out.setCell (p := ⟨gc, 0, none⟩) HGa2.out _).setCell (p := ⟨gc, 1, none⟩) HGa2.out _).setCell (p := ⟨gd, 0, none⟩) HGb2.out _).setCell (p := ⟨gd, 1, none⟩) HGb2.out _)
        clear s0 s1 p0 p1 sf0 sf1 pf0 pf1 hne hne2 HBb HBa HQ1 HQ2
        generalize ((((wd_.setCell ⟨gc, 0, none⟩ (.slice B2 a.length k2)).setCell ⟨gc, 1, none⟩ (.slice B3 b.length k3)).setCell ⟨gd, 0, none⟩ (.int .i64 0)).setCell ⟨gd, 1, none⟩ (.int .i64 0)) = w6 at HB6 HQc HQd HCs ⊢
        replace HC0 := Aside0.mk (And.intro (Kd.C_below HC0.out.1 HCs.out) HC0.out.2)
        replace HC1 := Aside0.mk (And.intro (Kd.C_below HC1.out.1 HCs.out) HC1.out.2)
        replace HC2 := Aside0.mk (And.intro (Kd.C_below HC2.out.1 HCs.out) HC2.out.2)
        replace HC3 := Aside0.mk (And.intro (Kd.C_below HC3.out.1 HCs.out) HC3.out.2)
        have HQ6 := Aside0.mk (blk_below HQ5.out HCs.out)
        have s0 : w6.cell? ⟨gc, 0, none⟩ = some (.slice B2 a.length k2) := (blk_cell HQc.out 0).trans rfl
        have s1 : w6.cell? ⟨gc, 1, none⟩ = some (.slice B3 b.length k3) := (blk_cell HQc.out 1).trans rfl
        go_wp2_with fail
        refine (encode_any B2 k2 a B3 k3 b w6 HC2.out.1 HC3.out.1 (HPow.out.below HB6.out) HI0.out HI1.out).mono ?_
        rintro e w7 ⟨rfl, hb⟩
        rw [HU.out]
        dsimp only
        have HB7 := Aside0.mk (below_step HB6.out hb)
        have HQ7 := Aside0.mk (blk_below HQ6.out hb)
        have HQc7 := Aside0.mk (blk_below HQc.out hb)
        have HQd7 := Aside0.mk (blk_below HQd.out hb)
        replace HC0 := Aside0.mk (And.intro (Kd.C_below HC0.out.1 hb) HC0.out.2)
        replace HC1 := Aside0.mk (And.intro (Kd.C_below HC1.out.1 hb) HC1.out.2)
        replace HC2 := Aside0.mk (And.intro (Kd.C_below HC2.out.1 hb) HC2.out.2)
        replace HC3 := Aside0.mk (And.intro (Kd.C_below HC3.out.1 hb) HC3.out.2)
        clear hb s0 s1
        have s0 : w7.cell? ⟨gc, 0, none⟩ = some (.slice B2 a.length k2) := (blk_cell HQc7.out 0).trans rfl
        have s1 : w7.cell? ⟨gc, 1, none⟩ = some (.slice B3 b.length k3) := (blk_cell HQc7.out 1).trans rfl
        have p0 : w7.cell? ⟨gd, 0, none⟩ = some (.int .i64 0) := (blk_cell HQd7.out 0).trans rfl
        have p1 : w7.cell? ⟨gd, 1, none⟩ = some (.int .i64 0) := (blk_cell HQd7.out 1).trans rfl
        have t0 : w7.cell? ⟨ga, 0, none⟩ = some (.slice B0 a.length k0) := (blk_cell HQ7.out 0).trans rfl
        have t1 : w7.cell? ⟨ga, 1, none⟩ = some (.slice B1 b.length k1) := (blk_cell HQ7.out 1).trans rfl
        have hstr := str_same U
        go_wp2_with fail
        refine (same_calls B0 B1 B2 B3 a.length b.length k0 k1 k2 k3 a b w7 rfl rfl HC0.out.1 HC0.out.2 HC1.out.1 HC1.out.2 HC2.out.1 HC2.out.2 HC3.out.1 HC3.out.2 (by have := HF.out.2.2.1; omega) (by have := HF.out.2.2.2; omega)).mono ?_
        rintro e w8 ⟨rfl, hb⟩
        have HB8 := Aside0.mk (below_step HB7.out hb)
        clear hb
        go_wp2
        go_ret
        exact ⟨by first | rfl | simp [hstr], HB8.out⟩
      · clear hF1
        go_wp2
        go_ret
        exact ⟨by first | rfl | simp, HB4.out⟩
    · have e1b : (e1 == 0) = false := beq_eq_false_iff_ne.mpr hD0
      have e1c : (e1 != 0) = true := bne_iff_ne.mpr hD0
      clear hD0
      go_wp2
      go_ret
      exact ⟨by first | rfl | simp, HB_.out⟩
end Go.Proofs.YtjlbimnafbngaaaDoor.Dec
