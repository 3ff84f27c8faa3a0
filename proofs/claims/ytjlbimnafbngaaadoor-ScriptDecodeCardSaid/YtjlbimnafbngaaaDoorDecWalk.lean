/- script.Decode: what it answers, for every text. -/
import Derived.Test.YtjlbimnafbngaaaDoorDecList
import Derived.Test.YtjlbimnafbngaaaDoorDecSpread
import Derived.Test.YtjlbimnafbngaaaDoorDecSize
import Derived.Test.YtjlbimnafbngaaaDoorDecCatch
import Derived.Test.YtjlbimnafbngaaaDoorDecFun
namespace Go.Proofs.YtjlbimnafbngaaaDoor.Dec
open Go.RowKit Go.Proofs.YtjlbimnafbngaaaDoorW.PrintWords Go.Proofs.YtjlbimnafbngaaaDoorW.PrintLast Go.Proofs.YtjlbimnafbngaaaDoorW.PrintMore Go.Proofs.YtjlbimnafbngaaaDoor.BitMath Go.Proofs.YtjlbimnafbngaaaDoor.PScriptDecode Go.Proofs.YtjlbimnafbngaaaDoor.Fmt
open Go.Proofs.YtjlbimnafbngaaaDoor.ParseLaw (size_len)
set_option linter.unusedVariables false
set_option linter.unusedSimpArgs false
/-- What Decode leaves: two lists of its own, apart from each other, and the spot. -/
def DEnd (w w' : World) (e : Ending) (r : (List Int × List Int) × (Int × Int)) : Prop :=
  ∃ v0 v1 : Value, e = .returned (.tuple #[.agg #[v0, v1], .agg #[.int .i64 r.2.1, .int .i64 r.2.2]]) ∧ Kd.R (Kd.int .i64) 3 w' w.heap.size (fun _ => True) v0 r.1.1 ∧ Kd.R (Kd.int .i64) 3 w' w.heap.size (fun k_ => some k_ ≠ v0.ownBlock) v1 r.1.2 ∧ Below w.heap.size w w'
theorem below_of_grown {w w' : World} (h : w.grownBy w' none) : Below w.heap.size w w' := ⟨h.os, h.tape, h.output, h.size, fun k hk => h.block k hk (by simp)⟩
theorem dend_none {w w' : World} (hb : Below w.heap.size w w') (a b : Int) : DEnd w w' (.returned (.tuple #[.agg #[.slice none 0 0, .slice none 0 0], .agg #[.int .i64 a, .int .i64 b]])) (([], []), (a, b)) :=
  ⟨_, _, rfl, Kd.R_nil _ _ _ _ _, Kd.R_nil _ _ _ _ _, hb⟩
set_option maxHeartbeats 16000000 in
set_option maxRecDepth 100000 in
theorem decode_calls (T : ByteArray) (hs : T.size ≤ 9223372036854775807) (w : World) (hP : PowAt w) :
    Calls Tryd.prog 12 #[.string T] w fun e w' => DEnd w w' e (decF T.data.toList) := by
  have hmf : ∀ (fn : Fn) (first cap : Array Value) (w : World), (Instr.makeFunc fn first cap).run Tryd.prog w = .ok (.func fn first cap) w := fun _ _ _ _ => rfl
  have hu24 := Tryd.underlying24
  have hu34 := Tryd.underlying34
  have hu56 := Tryd.underlying56
  have HPow := Aside0.mk hP
  clear hP
  have hsI : (T.size : Int) ≤ 9223372036854775807 := by omega
  by_cases hbig : 65536 < T.size
  · have hbI : (65536 : Int) < (T.size : Int) := by omega
    have hd : decF T.data.toList = (([], []), (2, 0)) := by unfold decF; rw [if_pos (by rw [size_len]; exact hbig)]
    rw [hd]
    clear hd
    go_enter_defers Tryd.func12, Tryd.ntmps12
    go_wp2_with (first | ((with_reducible refine gate_dst (N := 2) rfl ?_); refine box_event ?hg (N := 2) ?hd (cs := #[.slice none 0 0, .slice none 0 0]) (t := 24) ?hr ?_; (case hd => rfl); (case hg => rfl); (case hr => first | (go_simp; done) | (go_simp; rfl)); intro gs hg w1 hbox hb; have HS1 := Aside0.mk hbox; have HB1 := Aside0.mk hb; have HGs := Aside0.mk (show w.heap.size ≤ gs from by rw [hg]; exact Nat.le_refl _); clear hbox hb hg) | ((with_reducible refine gate_dst (N := 3) rfl ?_); refine box_event ?hg (N := 3) ?hd (cs := #[.int .i64 0, .int .i64 0]) (t := 34) ?hr ?_; (case hd => rfl); (case hg => rfl); (case hr => first | (go_simp; done) | (go_simp; rfl)); intro gp hg w2 hbox hb; have HS := Aside0.mk (blk_below HS1.out hb); have HPp := Aside0.mk hbox; have HB2 := Aside0.mk (below_step HB1.out hb); have HNe := Aside0.mk (show gs ≠ gp from by rw [hg]; exact Nat.ne_of_lt (blk_lt HS1.out)); have HGp := Aside0.mk (show w.heap.size ≤ gp from by rw [hg]; exact below_size HB1.out); clear hbox hb hg HS1 HB1; have hne := HNe.out; have hne2 : gp ≠ gs := fun e => hne e.symm; have s0 : w2.cell? ⟨gs, 0, none⟩ = some (.slice none 0 0) := (blk_cell HS.out 0).trans rfl; have s1 : w2.cell? ⟨gs, 1, none⟩ = some (.slice none 0 0) := (blk_cell HS.out 1).trans rfl; have p0 : w2.cell? ⟨gp, 0, none⟩ = some (.int .i64 0) := (blk_cell HPp.out 0).trans rfl; have p1 : w2.cell? ⟨gp, 1, none⟩ = some (.int .i64 0) := (blk_cell HPp.out 1).trans rfl; have sf0 := blk_frozen HS.out 0; have sf1 := blk_frozen HS.out 1; have pf0 := blk_frozen HPp.out 0; have pf1 := blk_frozen HPp.out 1))
    have HSx := Aside0.mk (show ((((w2.setCell ⟨gs, 0, none⟩ (.slice none 0 0)).setCell ⟨gs, 1, none⟩ (.slice none 0 0)).setCell ⟨gp, 0, none⟩ (.int .i64 2)).setCell ⟨gp, 1, none⟩ (.int .i64 0)).heap[gs]? = some (.cells #[.slice none 0 0, .slice none 0 0] 24 (0, 0)) from blk_far (blk_far (blk_put (cs := #[.slice none 0 0, .slice none 0 0]) (blk_put (cs := #[.slice none 0 0, .slice none 0 0]) HS.out 0 _ rfl) 1 _ rfl) HNe.out _) HNe.out _)
    have HPx := Aside0.mk (show ((((w2.setCell ⟨gs, 0, none⟩ (.slice none 0 0)).setCell ⟨gs, 1, none⟩ (.slice none 0 0)).setCell ⟨gp, 0, none⟩ (.int .i64 2)).setCell ⟨gp, 1, none⟩ (.int .i64 0)).heap[gp]? = some (.cells #[.int .i64 2, .int .i64 0] 34 (0, 0)) from blk_put (cs := #[.int .i64 2, .int .i64 0]) (blk_put (cs := #[.int .i64 0, .int .i64 0]) (blk_far (blk_far HPp.out HNe.out.symm _) HNe.out.symm _) 0 _ rfl) 1 _ rfl)
    have HBx := Aside0.mk (show Below w.heap.size w ((((w2.setCell ⟨gs, 0, none⟩ (.slice none 0 0)).setCell ⟨gs, 1, none⟩ (.slice none 0 0)).setCell ⟨gp, 0, none⟩ (.int .i64 2)).setCell ⟨gp, 1, none⟩ (.int .i64 0)) from (((HB2.out.setCell (p := ⟨gs, 0, none⟩) HGs.out _).setCell (p := ⟨gs, 1, none⟩) HGs.out _).setCell (p := ⟨gp, 0, none⟩) HGp.out _).setCell (p := ⟨gp, 1, none⟩) HGp.out _)
    generalize ((((w2.setCell ⟨gs, 0, none⟩ (.slice none 0 0)).setCell ⟨gs, 1, none⟩ (.slice none 0 0)).setCell ⟨gp, 0, none⟩ (.int .i64 2)).setCell ⟨gp, 1, none⟩ (.int .i64 0)) = w9 at HSx HPx HBx ⊢
    have q0 : w9.cell? ⟨gs, 0, none⟩ = some (.slice none 0 0) := (blk_cell HSx.out 0).trans rfl
    have q1 : w9.cell? ⟨gs, 1, none⟩ = some (.slice none 0 0) := (blk_cell HSx.out 1).trans rfl
    have q2 : w9.cell? ⟨gp, 0, none⟩ = some (.int .i64 2) := (blk_cell HPx.out 0).trans rfl
    have q3 : w9.cell? ⟨gp, 1, none⟩ = some (.int .i64 0) := (blk_cell HPx.out 1).trans rfl
    simp [bodyPostD, Leaves, settle, results, Tryd.results12, go_sem, q0, q1, q2, q3, hu24, hu34]
    exact dend_none HBx.out _ _
  · have hsz : T.size ≤ 65536 := by omega
    have hbI : (T.size : Int) ≤ 65536 := by omega
    have HT := Aside0.mk hsz
    obtain ⟨D, hD⟩ : ∃ D, decF T.data.toList = D := ⟨_, rfl⟩
    rw [hD]
    have hD2 := hD
    unfold decF at hD
    rw [if_neg (by rw [size_len]; exact hbig), size_len] at hD
    have HD := Aside0.mk hD
    clear hD hD2 hbig hsz
    have htl := tks_len T.data.toList 0
    rw [size_len] at htl
    have HTl := Aside0.mk htl
    clear htl
    go_enter_defers Tryd.func12, Tryd.ntmps12
    go_wp2_with (first | ((with_reducible refine gate_dst (N := 2) rfl ?_); refine box_event ?hg (N := 2) ?hd (cs := #[.slice none 0 0, .slice none 0 0]) (t := 24) ?hr ?_; (case hd => rfl); (case hg => rfl); (case hr => first | (go_simp; done) | (go_simp; rfl)); intro gs hg w1 hbox hb; have HS1 := Aside0.mk hbox; have HB1 := Aside0.mk hb; have HGs := Aside0.mk (show w.heap.size ≤ gs from by rw [hg]; exact Nat.le_refl _); clear hbox hb hg) | ((with_reducible refine gate_dst (N := 3) rfl ?_); refine box_event ?hg (N := 3) ?hd (cs := #[.int .i64 0, .int .i64 0]) (t := 34) ?hr ?_; (case hd => rfl); (case hg => rfl); (case hr => first | (go_simp; done) | (go_simp; rfl)); intro gp hg w2 hbox hb; have HS := Aside0.mk (blk_below HS1.out hb); have HPp := Aside0.mk hbox; have HB2 := Aside0.mk (below_step HB1.out hb); have HNe := Aside0.mk (show gs ≠ gp from by rw [hg]; exact Nat.ne_of_lt (blk_lt HS1.out)); have HGp := Aside0.mk (show w.heap.size ≤ gp from by rw [hg]; exact below_size HB1.out); clear hbox hb hg HS1 HB1; have hne := HNe.out; have hne2 : gp ≠ gs := fun e => hne e.symm; have s0 : w2.cell? ⟨gs, 0, none⟩ = some (.slice none 0 0) := (blk_cell HS.out 0).trans rfl; have s1 : w2.cell? ⟨gs, 1, none⟩ = some (.slice none 0 0) := (blk_cell HS.out 1).trans rfl; have p0 : w2.cell? ⟨gp, 0, none⟩ = some (.int .i64 0) := (blk_cell HPp.out 0).trans rfl; have p1 : w2.cell? ⟨gp, 1, none⟩ = some (.int .i64 0) := (blk_cell HPp.out 1).trans rfl; have sf0 := blk_frozen HS.out 0; have sf1 := blk_frozen HS.out 1; have pf0 := blk_frozen HPp.out 0; have pf1 := blk_frozen HPp.out 1) | ((with_reducible refine gate_dst (N := 15) rfl ?_); refine box_event ?hg (N := 15) ?hd (cs := #[.string T, .int .i64 0, .int .i64 0, .string ⟨#[]⟩]) (t := 56) ?hr ?_; (case hd => rfl); (case hg => rfl); (case hr => first | (go_simp; done) | (go_simp; rfl)); intro gr hg w3 hbox hb; have HS3 := Aside0.mk (blk_below HS.out hb); have HPp3 := Aside0.mk (blk_below HPp.out hb); have HR3 := Aside0.mk (show RdAt w3 gr T 0 0 ⟨#[]⟩ from hbox); have HB3 := Aside0.mk (below_step HB2.out hb); have HG3 := Aside0.mk (show gs ≠ gr ∧ gp ≠ gr ∧ w.heap.size ≤ gr from by rw [hg]; exact ⟨Nat.ne_of_lt (blk_lt HS.out), Nat.ne_of_lt (blk_lt HPp.out), below_size HB2.out⟩); clear hbox hb hg HS HPp HB2 s0 s1 p0 p1 sf0 sf1 pf0 pf1; have HS := HS3; have HPp := HPp3; clear HS3 HPp3))
    have HKb := Aside0.mk (Kb.refl w3 gr)
    refine (advance_calls T HT.out gr w3 0 0 ⟨#[]⟩ HR3.out (Nat.zero_le _)).mono ?_
    rintro e w4 ⟨rfl, a, n, V, hR, hA, hk⟩
    rw [List.drop_zero] at hA
    obtain ⟨ts, hts⟩ : ∃ ts, tks T.data.toList 0 = ts := ⟨_, rfl⟩
    rw [hts] at hA HD HTl
    have HRd := Aside0.mk (show Rd w4 gr T ts from ⟨a, n, V, hR, hA⟩)
    clear hR hA HR3 hts
    replace HS := Aside0.mk (hk.kb.blk HS.out HG3.out.1 (by simp))
    replace HPp := Aside0.mk (hk.kb.blk HPp.out HG3.out.2.1 (by simp))
    replace HKb := Aside0.mk (HKb.out.trans hk)
    clear hk
    go_wp2_with fail
    refine (need_calls ⟨#[112, 105, 99, 107, 115]⟩ HT.out HRd.out).mono ?_
    rintro e w5 ⟨hk, ⟨hw, rfl, hR⟩ | ⟨hw, rfl⟩⟩
    · replace hw : wd ts = bPicks := hw
      replace HRd := Aside0.mk hR
      have HW1 := Aside0.mk hw
      clear hR hw
      replace HS := Aside0.mk (hk.kb.blk HS.out HG3.out.1 (by simp))
      replace HPp := Aside0.mk (hk.kb.blk HPp.out HG3.out.2.1 (by simp))
      replace HKb := Aside0.mk (HKb.out.trans hk)
      clear hk
      obtain ⟨r1, hr1, hl1⟩ := pL_some T.size 70000 0 ts.tail (by have := HTl.out; simp; omega)
      have HP1 := Aside0.mk hr1
      have HL1 := Aside0.mk hl1
      clear hr1 hl1
      go_wp2_with fail
      refine (list_calls T HT.out gr w HPow.out HG3.out.2.2 70000 0 ts.tail w5 r1 _ rfl (by decide) (by decide) HRd.out (HKb.out.below HG3.out.2.2 HB3.out) HP1.out).mono ?_
      rintro e w6 ⟨hk, hend⟩
      cases r1 with
      | inl p =>
        obtain rfl : e = thrown p := hend
        replace HS := Aside0.mk (hk.kb.blk HS.out HG3.out.1 (by simp))
        replace HPp := Aside0.mk (hk.kb.blk HPp.out HG3.out.2.1 (by simp))
        replace HKb := Aside0.mk (HKb.out.trans hk)
        clear hk
        have hd : D = (([], []), (100, ((p : Nat) : Int))) := by
          rw [← HD.out]
          unfold pS
          rw [if_pos HW1.out, HP1.out]
        unfold thrown
        go_wp2
        refine leaves_cons (f := 21) (args := #[.pointer (some ⟨gs, 0, none⟩), .pointer (some ⟨gp, 0, none⟩)]) (by simp) (by simp [go_sem]) ?_
        refine (catch_panicking gs gp _ [] w6 HS.out HPp.out HNe.out).mono ?_
        rintro e u' w'' ⟨rfl, rfl, rfl⟩
        have HB8 := Aside0.mk (HKb.out.below HG3.out.2.2 HB3.out)
        have HSx := Aside0.mk (show ((((w6.setCell ⟨gs, 0, none⟩ (.slice none 0 0)).setCell ⟨gs, 1, none⟩ (.slice none 0 0)).setCell ⟨gp, 0, none⟩ (.int .i64 100)).setCell ⟨gp, 1, none⟩ (.int .i64 ((p : Nat) : Int))).heap[gs]? = some (.cells #[.slice none 0 0, .slice none 0 0] 24 (0, 0)) from blk_far (blk_far (blk_put (cs := #[.slice none 0 0, .slice none 0 0]) (blk_put (cs := #[.slice none 0 0, .slice none 0 0]) HS.out 0 _ rfl) 1 _ rfl) HNe.out _) HNe.out _)
        have HPx := Aside0.mk (show ((((w6.setCell ⟨gs, 0, none⟩ (.slice none 0 0)).setCell ⟨gs, 1, none⟩ (.slice none 0 0)).setCell ⟨gp, 0, none⟩ (.int .i64 100)).setCell ⟨gp, 1, none⟩ (.int .i64 ((p : Nat) : Int))).heap[gp]? = some (.cells #[.int .i64 100, .int .i64 ((p : Nat) : Int)] 34 (0, 0)) from blk_put (cs := #[.int .i64 100, .int .i64 0]) (blk_put (cs := #[.int .i64 0, .int .i64 0]) (blk_far (blk_far HPp.out HNe.out.symm _) HNe.out.symm _) 0 _ rfl) 1 _ rfl)
        have HBx := Aside0.mk (show Below w.heap.size w ((((w6.setCell ⟨gs, 0, none⟩ (.slice none 0 0)).setCell ⟨gs, 1, none⟩ (.slice none 0 0)).setCell ⟨gp, 0, none⟩ (.int .i64 100)).setCell ⟨gp, 1, none⟩ (.int .i64 ((p : Nat) : Int))) from (((HB8.out.setCell (p := ⟨gs, 0, none⟩) HGs.out _).setCell (p := ⟨gs, 1, none⟩) HGs.out _).setCell (p := ⟨gp, 0, none⟩) HGp.out _).setCell (p := ⟨gp, 1, none⟩) HGp.out _)
        generalize ((((w6.setCell ⟨gs, 0, none⟩ (.slice none 0 0)).setCell ⟨gs, 1, none⟩ (.slice none 0 0)).setCell ⟨gp, 0, none⟩ (.int .i64 100)).setCell ⟨gp, 1, none⟩ (.int .i64 ((p : Nat) : Int))) = w9 at HSx HPx HBx ⊢
        have q0 : w9.cell? ⟨gs, 0, none⟩ = some (.slice none 0 0) := (blk_cell HSx.out 0).trans rfl
        have q1 : w9.cell? ⟨gs, 1, none⟩ = some (.slice none 0 0) := (blk_cell HSx.out 1).trans rfl
        have q2 : w9.cell? ⟨gp, 0, none⟩ = some (.int .i64 100) := (blk_cell HPx.out 0).trans rfl
        have q3 : w9.cell? ⟨gp, 1, none⟩ = some (.int .i64 ((p : Nat) : Int)) := (blk_cell HPx.out 1).trans rfl
        rw [hd]
        simp [Leaves, settle, results, Tryd.results12, go_sem, q0, q1, q2, q3, hu24, hu34]
        exact dend_none HBx.out _ _
      | inr lt =>
        obtain ⟨la, t⟩ := lt
        obtain ⟨v1, rfl, hI, hR⟩ := hend
        obtain ⟨A1, c1, rfl⟩ := Kd.R_slice hI
        have HLa := Aside0.mk hI
        replace HRd := Aside0.mk hR
        have HTt := Aside0.mk (show t.length ≤ 65536 from by have h1 := HL1.out la t rfl; have h2 := HTl.out; have h3 := HT.out; simp at h1; omega)
        have HOa := Aside0.mk (pL_ok _ _ _ _ _ _ HP1.out)
        clear hI hR
        replace HS := Aside0.mk (hk.kb.blk HS.out HG3.out.1 (by simp))
        replace HPp := Aside0.mk (hk.kb.blk HPp.out HG3.out.2.1 (by simp))
        replace HKb := Aside0.mk (HKb.out.trans hk)
        clear hk
        go_wp2_with fail
        refine (need_calls ⟨#[100, 114, 97, 119, 115]⟩ HT.out HRd.out).mono ?_
        rintro e w7 ⟨hk, ⟨hw, rfl, hR⟩ | ⟨hw, rfl⟩⟩
        · replace hw : wd t = bDraws := hw
          replace HRd := Aside0.mk hR
          have HW2 := Aside0.mk hw
          clear hR hw
          replace HS := Aside0.mk (hk.kb.blk HS.out HG3.out.1 (by simp))
          replace HPp := Aside0.mk (hk.kb.blk HPp.out HG3.out.2.1 (by simp))
          replace HKb := Aside0.mk (HKb.out.trans hk)
          replace HLa := Aside0.mk (Kd.R_keep HLa.out hk.kb (fun _ h => h))
          clear hk
          obtain ⟨r2, hr2, hl2⟩ := pL_some T.size 70000 0 t.tail (by have := HTt.out; simp; omega)
          have HP2 := Aside0.mk hr2
          clear hr2 hl2
          go_wp2_with fail
          refine (list_calls T HT.out gr w HPow.out HG3.out.2.2 70000 0 t.tail w7 r2 _ rfl (by decide) (by decide) HRd.out (HKb.out.below HG3.out.2.2 HB3.out) HP2.out).mono ?_
          rintro e w8 ⟨hk, hend⟩
          cases r2 with
          | inl p =>
            obtain rfl : e = thrown p := hend
            replace HS := Aside0.mk (hk.kb.blk HS.out HG3.out.1 (by simp))
            replace HPp := Aside0.mk (hk.kb.blk HPp.out HG3.out.2.1 (by simp))
            replace HKb := Aside0.mk (HKb.out.trans hk)
            clear hk
            have hd : D = (([], []), (100, ((p : Nat) : Int))) := by
              rw [← HD.out]
              unfold pS
              rw [if_pos HW1.out, HP1.out]
              dsimp only
              rw [if_pos HW2.out, HP2.out]
            unfold thrown
            go_wp2
            refine leaves_cons (f := 21) (args := #[.pointer (some ⟨gs, 0, none⟩), .pointer (some ⟨gp, 0, none⟩)]) (by simp) (by simp [go_sem]) ?_
            refine (catch_panicking gs gp _ [] w8 HS.out HPp.out HNe.out).mono ?_
            rintro e u' w'' ⟨rfl, rfl, rfl⟩
            have HB8 := Aside0.mk (HKb.out.below HG3.out.2.2 HB3.out)
            have HSx := Aside0.mk (show ((((w8.setCell ⟨gs, 0, none⟩ (.slice none 0 0)).setCell ⟨gs, 1, none⟩ (.slice none 0 0)).setCell ⟨gp, 0, none⟩ (.int .i64 100)).setCell ⟨gp, 1, none⟩ (.int .i64 ((p : Nat) : Int))).heap[gs]? = some (.cells #[.slice none 0 0, .slice none 0 0] 24 (0, 0)) from blk_far (blk_far (blk_put (cs := #[.slice none 0 0, .slice none 0 0]) (blk_put (cs := #[.slice none 0 0, .slice none 0 0]) HS.out 0 _ rfl) 1 _ rfl) HNe.out _) HNe.out _)
            have HPx := Aside0.mk (show ((((w8.setCell ⟨gs, 0, none⟩ (.slice none 0 0)).setCell ⟨gs, 1, none⟩ (.slice none 0 0)).setCell ⟨gp, 0, none⟩ (.int .i64 100)).setCell ⟨gp, 1, none⟩ (.int .i64 ((p : Nat) : Int))).heap[gp]? = some (.cells #[.int .i64 100, .int .i64 ((p : Nat) : Int)] 34 (0, 0)) from blk_put (cs := #[.int .i64 100, .int .i64 0]) (blk_put (cs := #[.int .i64 0, .int .i64 0]) (blk_far (blk_far HPp.out HNe.out.symm _) HNe.out.symm _) 0 _ rfl) 1 _ rfl)
            have HBx := Aside0.mk (show Below w.heap.size w ((((w8.setCell ⟨gs, 0, none⟩ (.slice none 0 0)).setCell ⟨gs, 1, none⟩ (.slice none 0 0)).setCell ⟨gp, 0, none⟩ (.int .i64 100)).setCell ⟨gp, 1, none⟩ (.int .i64 ((p : Nat) : Int))) from (((HB8.out.setCell (p := ⟨gs, 0, none⟩) HGs.out _).setCell (p := ⟨gs, 1, none⟩) HGs.out _).setCell (p := ⟨gp, 0, none⟩) HGp.out _).setCell (p := ⟨gp, 1, none⟩) HGp.out _)
            generalize ((((w8.setCell ⟨gs, 0, none⟩ (.slice none 0 0)).setCell ⟨gs, 1, none⟩ (.slice none 0 0)).setCell ⟨gp, 0, none⟩ (.int .i64 100)).setCell ⟨gp, 1, none⟩ (.int .i64 ((p : Nat) : Int))) = w9 at HSx HPx HBx ⊢
            have q0 : w9.cell? ⟨gs, 0, none⟩ = some (.slice none 0 0) := (blk_cell HSx.out 0).trans rfl
            have q1 : w9.cell? ⟨gs, 1, none⟩ = some (.slice none 0 0) := (blk_cell HSx.out 1).trans rfl
            have q2 : w9.cell? ⟨gp, 0, none⟩ = some (.int .i64 100) := (blk_cell HPx.out 0).trans rfl
            have q3 : w9.cell? ⟨gp, 1, none⟩ = some (.int .i64 ((p : Nat) : Int)) := (blk_cell HPx.out 1).trans rfl
            rw [hd]
            simp [Leaves, settle, results, Tryd.results12, go_sem, q0, q1, q2, q3, hu24, hu34]
            exact dend_none HBx.out _ _
          | inr lt =>
            obtain ⟨lb, t2⟩ := lt
            obtain ⟨v2, rfl, hI, hR⟩ := hend
            obtain ⟨A2, c2, rfl⟩ := Kd.R_slice hI
            have HLb := Aside0.mk hI
            replace HRd := Aside0.mk hR
            have HOb := Aside0.mk (pL_ok _ _ _ _ _ _ HP2.out)
            clear hI hR
            replace HS := Aside0.mk (hk.kb.blk HS.out HG3.out.1 (by simp))
            replace HPp := Aside0.mk (hk.kb.blk HPp.out HG3.out.2.1 (by simp))
            replace HKb := Aside0.mk (HKb.out.trans hk)
            replace HLa := Aside0.mk (Kd.R_keep HLa.out hk.kb (fun _ h => h))
            clear hk
            obtain ⟨a, n, V, hRa, hAt⟩ := id HRd.out
            have z1 := hRa.z1
            have hnil := hAt.nil
            rw [size_len] at hnil
            clear hRa hAt
            by_cases ht2 : t2 = []
            · have d1 : decide (a < T.size) = false := decide_eq_false (fun h => hnil.1 h ht2)
              have d2 : decide ((a : Int) < (T.size : Int)) = false := decide_eq_false (fun h => hnil.1 (by omega) ht2)
              have d3 : ¬ (a : Int) < (T.size : Int) := fun h => hnil.1 (by omega) ht2
              have HT2 := Aside0.mk ht2
              clear hnil ht2
              have hd0 : D = if 1048576 < (expL la).length ∨ 1048576 < (expL lb).length then (([], []), (2, 0)) else ((expL la, expL lb), (0, 0)) := by
                rw [← HD.out]
                unfold pS
                rw [if_pos HW1.out, HP1.out]
                dsimp only
                rw [if_pos HW2.out, HP2.out]
                dsimp only
                rw [if_pos HT2.out]
              have HD0 := Aside0.mk hd0
              clear hd0
              go_wp2_with fail
              refine (size_calls (dpL la) la A1 c1 w8 (Nat.le_refl _) HOa.out (Kd.R_reads' HLa.out).2.2).mono ?_
              rintro e w10 ⟨rfl, hb⟩
              clear z1
              have HS_ := Aside0.mk (blk_below HS.out hb)
              have HPp_ := Aside0.mk (blk_below HPp.out hb)
              have HLa_ := Aside0.mk (Kd.R_below HLa.out hb)
              have HLb_ := Aside0.mk (Kd.R_below HLb.out hb)
              have hk := Kb.of_below hb (gr := gr) (Nat.le_of_lt (HRd.out.lt))
              have HRd_ := Aside0.mk (HRd.out.keep hb)
              have HKb_ := Aside0.mk (HKb.out.trans hk)
              clear HS HPp HLa HLb HRd HKb hk hb
              have HS := HS_
              clear HS_
              have HPp := HPp_
              clear HPp_
              have HRd := HRd_
              clear HRd_
              have HKb := HKb_
              clear HKb_
              have HLa := HLa_
              clear HLa_
              have HLb := HLb_
              clear HLb_
              have hsat := sat_in (expL la).length
              obtain ⟨sa, hsa⟩ : ∃ sa, sat (expL la).length = sa := ⟨_, rfl⟩
              rw [hsa] at hsat ⊢
              by_cases hba : 1048576 < (expL la).length
              · have hsa1 : 1048576 < sa := by rw [← hsa]; unfold sat; rw [if_neg (by omega)]; decide
                have hd : D = (([], []), (2, 0)) := by rw [HD0.out, if_pos (.inl hba)]
                have hne := HNe.out
                have hne2 : gp ≠ gs := fun e => hne e.symm
                have s0 : w10.cell? ⟨gs, 0, none⟩ = some (.slice none 0 0) := (blk_cell HS.out 0).trans rfl
                have s1 : w10.cell? ⟨gs, 1, none⟩ = some (.slice none 0 0) := (blk_cell HS.out 1).trans rfl
                have p0 : w10.cell? ⟨gp, 0, none⟩ = some (.int .i64 0) := (blk_cell HPp.out 0).trans rfl
                have p1 : w10.cell? ⟨gp, 1, none⟩ = some (.int .i64 0) := (blk_cell HPp.out 1).trans rfl
                have sf0 := blk_frozen HS.out 0
                have sf1 := blk_frozen HS.out 1
                have pf0 := blk_frozen HPp.out 0
                have pf1 := blk_frozen HPp.out 1
                go_wp2
                refine leaves_cons (f := 21) (args := #[.pointer (some ⟨gs, 0, none⟩), .pointer (some ⟨gp, 0, none⟩)]) (by simp) (by simp [go_sem]) ?_
                refine (catch_idle gs gp _).mono ?_
                rintro e u' w'' ⟨rfl, rfl, rfl⟩
                clear s0 s1 p0 p1 sf0 sf1 pf0 pf1 hne hne2
                have HB8 := Aside0.mk (HKb.out.below HG3.out.2.2 HB3.out)
                have HSx := Aside0.mk (show ((((w10.setCell ⟨gs, 0, none⟩ (.slice none 0 0)).setCell ⟨gs, 1, none⟩ (.slice none 0 0)).setCell ⟨gp, 0, none⟩ (.int .i64 2)).setCell ⟨gp, 1, none⟩ (.int .i64 0)).heap[gs]? = some (.cells #[.slice none 0 0, .slice none 0 0] 24 (0, 0)) from blk_far (blk_far (blk_put (cs := #[.slice none 0 0, .slice none 0 0]) (blk_put (cs := #[.slice none 0 0, .slice none 0 0]) HS.out 0 _ rfl) 1 _ rfl) HNe.out _) HNe.out _)
                have HPx := Aside0.mk (show ((((w10.setCell ⟨gs, 0, none⟩ (.slice none 0 0)).setCell ⟨gs, 1, none⟩ (.slice none 0 0)).setCell ⟨gp, 0, none⟩ (.int .i64 2)).setCell ⟨gp, 1, none⟩ (.int .i64 0)).heap[gp]? = some (.cells #[.int .i64 2, .int .i64 0] 34 (0, 0)) from blk_put (cs := #[.int .i64 2, .int .i64 0]) (blk_put (cs := #[.int .i64 0, .int .i64 0]) (blk_far (blk_far HPp.out HNe.out.symm _) HNe.out.symm _) 0 _ rfl) 1 _ rfl)
                have HBx := Aside0.mk (show Below w.heap.size w ((((w10.setCell ⟨gs, 0, none⟩ (.slice none 0 0)).setCell ⟨gs, 1, none⟩ (.slice none 0 0)).setCell ⟨gp, 0, none⟩ (.int .i64 2)).setCell ⟨gp, 1, none⟩ (.int .i64 0)) from (((HB8.out.setCell (p := ⟨gs, 0, none⟩) HGs.out _).setCell (p := ⟨gs, 1, none⟩) HGs.out _).setCell (p := ⟨gp, 0, none⟩) HGp.out _).setCell (p := ⟨gp, 1, none⟩) HGp.out _)
                generalize ((((w10.setCell ⟨gs, 0, none⟩ (.slice none 0 0)).setCell ⟨gs, 1, none⟩ (.slice none 0 0)).setCell ⟨gp, 0, none⟩ (.int .i64 2)).setCell ⟨gp, 1, none⟩ (.int .i64 0)) = w9 at HSx HPx HBx ⊢
                have q0 : w9.cell? ⟨gs, 0, none⟩ = some (.slice none 0 0) := (blk_cell HSx.out 0).trans rfl
                have q1 : w9.cell? ⟨gs, 1, none⟩ = some (.slice none 0 0) := (blk_cell HSx.out 1).trans rfl
                have q2 : w9.cell? ⟨gp, 0, none⟩ = some (.int .i64 2) := (blk_cell HPx.out 0).trans rfl
                have q3 : w9.cell? ⟨gp, 1, none⟩ = some (.int .i64 0) := (blk_cell HPx.out 1).trans rfl
                rw [hd]
                simp [Leaves, settle, results, Tryd.results12, go_sem, q0, q1, q2, q3, hu24, hu34]
                exact dend_none HBx.out _ _
              · have hsa1 : ¬ 1048576 < sa := by rw [← hsa]; unfold sat; rw [if_pos (by omega)]; omega
                have hsa2 : sa ≤ 1048576 := by omega
                go_wp2_with fail
                refine (size_calls (dpL lb) lb A2 c2 w10 (Nat.le_refl _) HOb.out (Kd.R_reads' HLb.out).2.2).mono ?_
                rintro e w11 ⟨rfl, hb⟩
                have HS_ := Aside0.mk (blk_below HS.out hb)
                have HPp_ := Aside0.mk (blk_below HPp.out hb)
                have HLa_ := Aside0.mk (Kd.R_below HLa.out hb)
                have HLb_ := Aside0.mk (Kd.R_below HLb.out hb)
                have hk := Kb.of_below hb (gr := gr) (Nat.le_of_lt (HRd.out.lt))
                have HRd_ := Aside0.mk (HRd.out.keep hb)
                have HKb_ := Aside0.mk (HKb.out.trans hk)
                clear HS HPp HLa HLb HRd HKb hk hb
                have HS := HS_
                clear HS_
                have HPp := HPp_
                clear HPp_
                have HRd := HRd_
                clear HRd_
                have HKb := HKb_
                clear HKb_
                have HLa := HLa_
                clear HLa_
                have HLb := HLb_
                clear HLb_
                have hsat2 := sat_in (expL lb).length
                obtain ⟨sb, hsb⟩ : ∃ sb, sat (expL lb).length = sb := ⟨_, rfl⟩
                rw [hsb] at hsat2 ⊢
                by_cases hbb : 1048576 < (expL lb).length
                · have hsb1 : 1048576 < sb := by rw [← hsb]; unfold sat; rw [if_neg (by omega)]; decide
                  have hd : D = (([], []), (2, 0)) := by rw [HD0.out, if_pos (.inr hbb)]
                  have hne := HNe.out
                  have hne2 : gp ≠ gs := fun e => hne e.symm
                  have s0 : w11.cell? ⟨gs, 0, none⟩ = some (.slice none 0 0) := (blk_cell HS.out 0).trans rfl
                  have s1 : w11.cell? ⟨gs, 1, none⟩ = some (.slice none 0 0) := (blk_cell HS.out 1).trans rfl
                  have p0 : w11.cell? ⟨gp, 0, none⟩ = some (.int .i64 0) := (blk_cell HPp.out 0).trans rfl
                  have p1 : w11.cell? ⟨gp, 1, none⟩ = some (.int .i64 0) := (blk_cell HPp.out 1).trans rfl
                  have sf0 := blk_frozen HS.out 0
                  have sf1 := blk_frozen HS.out 1
                  have pf0 := blk_frozen HPp.out 0
                  have pf1 := blk_frozen HPp.out 1
                  go_wp2
                  refine leaves_cons (f := 21) (args := #[.pointer (some ⟨gs, 0, none⟩), .pointer (some ⟨gp, 0, none⟩)]) (by simp) (by simp [go_sem]) ?_
                  refine (catch_idle gs gp _).mono ?_
                  rintro e u' w'' ⟨rfl, rfl, rfl⟩
                  clear s0 s1 p0 p1 sf0 sf1 pf0 pf1 hne hne2
                  have HB8 := Aside0.mk (HKb.out.below HG3.out.2.2 HB3.out)
                  have HSx := Aside0.mk (show ((((w11.setCell ⟨gs, 0, none⟩ (.slice none 0 0)).setCell ⟨gs, 1, none⟩ (.slice none 0 0)).setCell ⟨gp, 0, none⟩ (.int .i64 2)).setCell ⟨gp, 1, none⟩ (.int .i64 0)).heap[gs]? = some (.cells #[.slice none 0 0, .slice none 0 0] 24 (0, 0)) from blk_far (blk_far (blk_put (cs := #[.slice none 0 0, .slice none 0 0]) (blk_put (cs := #[.slice none 0 0, .slice none 0 0]) HS.out 0 _ rfl) 1 _ rfl) HNe.out _) HNe.out _)
                  have HPx := Aside0.mk (show ((((w11.setCell ⟨gs, 0, none⟩ (.slice none 0 0)).setCell ⟨gs, 1, none⟩ (.slice none 0 0)).setCell ⟨gp, 0, none⟩ (.int .i64 2)).setCell ⟨gp, 1, none⟩ (.int .i64 0)).heap[gp]? = some (.cells #[.int .i64 2, .int .i64 0] 34 (0, 0)) from blk_put (cs := #[.int .i64 2, .int .i64 0]) (blk_put (cs := #[.int .i64 0, .int .i64 0]) (blk_far (blk_far HPp.out HNe.out.symm _) HNe.out.symm _) 0 _ rfl) 1 _ rfl)
                  have HBx := Aside0.mk (show Below w.heap.size w ((((w11.setCell ⟨gs, 0, none⟩ (.slice none 0 0)).setCell ⟨gs, 1, none⟩ (.slice none 0 0)).setCell ⟨gp, 0, none⟩ (.int .i64 2)).setCell ⟨gp, 1, none⟩ (.int .i64 0)) from (((HB8.out.setCell (p := ⟨gs, 0, none⟩) HGs.out _).setCell (p := ⟨gs, 1, none⟩) HGs.out _).setCell (p := ⟨gp, 0, none⟩) HGp.out _).setCell (p := ⟨gp, 1, none⟩) HGp.out _)
                  generalize ((((w11.setCell ⟨gs, 0, none⟩ (.slice none 0 0)).setCell ⟨gs, 1, none⟩ (.slice none 0 0)).setCell ⟨gp, 0, none⟩ (.int .i64 2)).setCell ⟨gp, 1, none⟩ (.int .i64 0)) = w9 at HSx HPx HBx ⊢
                  have q0 : w9.cell? ⟨gs, 0, none⟩ = some (.slice none 0 0) := (blk_cell HSx.out 0).trans rfl
                  have q1 : w9.cell? ⟨gs, 1, none⟩ = some (.slice none 0 0) := (blk_cell HSx.out 1).trans rfl
                  have q2 : w9.cell? ⟨gp, 0, none⟩ = some (.int .i64 2) := (blk_cell HPx.out 0).trans rfl
                  have q3 : w9.cell? ⟨gp, 1, none⟩ = some (.int .i64 0) := (blk_cell HPx.out 1).trans rfl
                  rw [hd]
                  simp [Leaves, settle, results, Tryd.results12, go_sem, q0, q1, q2, q3, hu24, hu34]
                  exact dend_none HBx.out _ _
                · have hsb1 : ¬ 1048576 < sb := by rw [← hsb]; unfold sat; rw [if_pos (by omega)]; omega
                  have hsb2 : sb ≤ 1048576 := by omega
                  have hd : D = ((expL la, expL lb), (0, 0)) := by rw [HD0.out, if_neg (by omega)]
                  have HDd := Aside0.mk hd
                  have HBa := Aside0.mk (And.intro hba hbb)
                  clear hd
                  go_wp2_with fail
                  have HB11 := Aside0.mk (HKb.out.below HG3.out.2.2 HB3.out)
                  refine (spread_calls (dpL la) la A1 c1 (.slice none 0 0) [] w11 w.heap.size _ _ (Nat.le_refl _) HOa.out (below_size HB11.out) (Kd.R_nil _ _ _ _ _) HLa.out (by have := HBa.out; simp; omega)).mono ?_
                  rintro e w12 ⟨v3, rfl, hO1, hg, _⟩
                  have hb := below_of_grown (show w11.grownBy w12 none from hg)
                  obtain ⟨A3, c3, rfl⟩ := Kd.R_slice hO1
                  rw [List.nil_append] at hO1
                  have HO1 := Aside0.mk hO1
                  clear hO1 hg
                  have HS_ := Aside0.mk (blk_below HS.out hb)
                  have HPp_ := Aside0.mk (blk_below HPp.out hb)
                  have HLb_ := Aside0.mk (Kd.R_below HLb.out hb)
                  have hk := Kb.of_below hb (gr := gr) (Nat.le_of_lt (HRd.out.lt))
                  have HRd_ := Aside0.mk (HRd.out.keep hb)
                  have HKb_ := Aside0.mk (HKb.out.trans hk)
                  clear HS HPp HLb HRd HKb hk hb
                  have HS := HS_
                  clear HS_
                  have HPp := HPp_
                  clear HPp_
                  have HRd := HRd_
                  clear HRd_
                  have HKb := HKb_
                  clear HKb_
                  have HLb := HLb_
                  clear HLb_
                  have HB12 := Aside0.mk (HKb.out.below HG3.out.2.2 HB3.out)
                  go_wp2_with fail
                  refine (spread_calls (dpL lb) lb A2 c2 (.slice none 0 0) [] w12 w12.heap.size _ _ (Nat.le_refl _) HOb.out (Nat.le_refl _) (Kd.R_nil _ _ _ _ _) HLb.out (by have := HBa.out; simp; omega)).mono ?_
                  rintro e w13 ⟨v4, rfl, hO2, hg, _⟩
                  have hb := below_of_grown (show w12.grownBy w13 none from hg)
                  rw [List.nil_append] at hO2
                  have hO3 := Kd.R_lower (Kd.R_mono (ok' := fun k_ => some k_ ≠ (Value.slice A3 (expL la).length c3).ownBlock) (Kd.R_new' hO2 (fun k hk => Kd.R_lt HO1.out k hk)) (fun _ h => h.2)) (below_size HB12.out)
                  obtain ⟨A4, c4, rfl⟩ := Kd.R_slice hO3
                  have HO2 := Aside0.mk hO3
                  clear hO2 hO3 hg
                  have HS_ := Aside0.mk (blk_below HS.out hb)
                  have HPp_ := Aside0.mk (blk_below HPp.out hb)
                  have HO1_ := Aside0.mk (Kd.R_below HO1.out hb)
                  have hk := Kb.of_below hb (gr := gr) (Nat.le_of_lt (HRd.out.lt))
                  have HRd_ := Aside0.mk (HRd.out.keep hb)
                  have HKb_ := Aside0.mk (HKb.out.trans hk)
                  clear HS HPp HO1 HRd HKb hk hb
                  have HS := HS_
                  clear HS_
                  have HPp := HPp_
                  clear HPp_
                  have HRd := HRd_
                  clear HRd_
                  have HKb := HKb_
                  clear HKb_
                  have HO1 := HO1_
                  clear HO1_
                  have hne := HNe.out
                  have hne2 : gp ≠ gs := fun e => hne e.symm
                  have s0 : w13.cell? ⟨gs, 0, none⟩ = some (.slice none 0 0) := (blk_cell HS.out 0).trans rfl
                  have s1 : w13.cell? ⟨gs, 1, none⟩ = some (.slice none 0 0) := (blk_cell HS.out 1).trans rfl
                  have p0 : w13.cell? ⟨gp, 0, none⟩ = some (.int .i64 0) := (blk_cell HPp.out 0).trans rfl
                  have p1 : w13.cell? ⟨gp, 1, none⟩ = some (.int .i64 0) := (blk_cell HPp.out 1).trans rfl
                  have sf0 := blk_frozen HS.out 0
                  have sf1 := blk_frozen HS.out 1
                  have pf0 := blk_frozen HPp.out 0
                  have pf1 := blk_frozen HPp.out 1
                  go_wp2
                  refine leaves_cons (f := 21) (args := #[.pointer (some ⟨gs, 0, none⟩), .pointer (some ⟨gp, 0, none⟩)]) (by simp) (by simp [go_sem]) ?_
                  refine (catch_idle gs gp _).mono ?_
                  rintro e u' w'' ⟨rfl, rfl, rfl⟩
                  clear s0 s1 p0 p1 sf0 sf1 pf0 pf1 hne hne2
                  have HB8 := Aside0.mk (HKb.out.below HG3.out.2.2 HB3.out)
                  have HO1x := Aside0.mk (show Kd.R (Kd.int .i64) 3 ((((w13.setCell ⟨gs, 0, none⟩ (.slice A3 (expL la).length c3)).setCell ⟨gs, 1, none⟩ (.slice A4 (expL lb).length c4)).setCell ⟨gp, 0, none⟩ (.int .i64 0)).setCell ⟨gp, 1, none⟩ (.int .i64 0)) w.heap.size (fun _ => True) (.slice A3 (expL la).length c3) (expL la) from Kd.R_set (Kd.R_set (Kd.R_set (Kd.R_set HO1.out HS.out (by decide) 0 _) (blk_put (cs := #[.slice none 0 0, .slice none 0 0]) HS.out 0 _ rfl) (by decide) 1 _) (blk_far (blk_far HPp.out HNe.out.symm _) HNe.out.symm _) (by decide) 0 _) (blk_put (cs := #[.int .i64 0, .int .i64 0]) (blk_far (blk_far HPp.out HNe.out.symm _) HNe.out.symm _) 0 _ rfl) (by decide) 1 _)
                  have HO2x := Aside0.mk (show Kd.R (Kd.int .i64) 3 ((((w13.setCell ⟨gs, 0, none⟩ (.slice A3 (expL la).length c3)).setCell ⟨gs, 1, none⟩ (.slice A4 (expL lb).length c4)).setCell ⟨gp, 0, none⟩ (.int .i64 0)).setCell ⟨gp, 1, none⟩ (.int .i64 0)) w.heap.size (fun k_ => some k_ ≠ (Value.slice A3 (expL la).length c3).ownBlock) (.slice A4 (expL lb).length c4) (expL lb) from Kd.R_set (Kd.R_set (Kd.R_set (Kd.R_set HO2.out HS.out (by decide) 0 _) (blk_put (cs := #[.slice none 0 0, .slice none 0 0]) HS.out 0 _ rfl) (by decide) 1 _) (blk_far (blk_far HPp.out HNe.out.symm _) HNe.out.symm _) (by decide) 0 _) (blk_put (cs := #[.int .i64 0, .int .i64 0]) (blk_far (blk_far HPp.out HNe.out.symm _) HNe.out.symm _) 0 _ rfl) (by decide) 1 _)
                  have HSx := Aside0.mk (show ((((w13.setCell ⟨gs, 0, none⟩ (.slice A3 (expL la).length c3)).setCell ⟨gs, 1, none⟩ (.slice A4 (expL lb).length c4)).setCell ⟨gp, 0, none⟩ (.int .i64 0)).setCell ⟨gp, 1, none⟩ (.int .i64 0)).heap[gs]? = some (.cells #[.slice A3 (expL la).length c3, .slice A4 (expL lb).length c4] 24 (0, 0)) from blk_far (blk_far (blk_put (cs := #[.slice A3 (expL la).length c3, .slice none 0 0]) (blk_put (cs := #[.slice none 0 0, .slice none 0 0]) HS.out 0 _ rfl) 1 _ rfl) HNe.out _) HNe.out _)
                  have HPx := Aside0.mk (show ((((w13.setCell ⟨gs, 0, none⟩ (.slice A3 (expL la).length c3)).setCell ⟨gs, 1, none⟩ (.slice A4 (expL lb).length c4)).setCell ⟨gp, 0, none⟩ (.int .i64 0)).setCell ⟨gp, 1, none⟩ (.int .i64 0)).heap[gp]? = some (.cells #[.int .i64 0, .int .i64 0] 34 (0, 0)) from blk_put (cs := #[.int .i64 0, .int .i64 0]) (blk_put (cs := #[.int .i64 0, .int .i64 0]) (blk_far (blk_far HPp.out HNe.out.symm _) HNe.out.symm _) 0 _ rfl) 1 _ rfl)
                  have HBx := Aside0.mk (show Below w.heap.size w ((((w13.setCell ⟨gs, 0, none⟩ (.slice A3 (expL la).length c3)).setCell ⟨gs, 1, none⟩ (.slice A4 (expL lb).length c4)).setCell ⟨gp, 0, none⟩ (.int .i64 0)).setCell ⟨gp, 1, none⟩ (.int .i64 0)) from (((HB8.out.setCell (p := ⟨gs, 0, none⟩) HGs.out _).setCell (p := ⟨gs, 1, none⟩) HGs.out _).setCell (p := ⟨gp, 0, none⟩) HGp.out _).setCell (p := ⟨gp, 1, none⟩) HGp.out _)
                  generalize ((((w13.setCell ⟨gs, 0, none⟩ (.slice A3 (expL la).length c3)).setCell ⟨gs, 1, none⟩ (.slice A4 (expL lb).length c4)).setCell ⟨gp, 0, none⟩ (.int .i64 0)).setCell ⟨gp, 1, none⟩ (.int .i64 0)) = w9 at HSx HPx HBx HO1x HO2x ⊢
                  have q0 : w9.cell? ⟨gs, 0, none⟩ = some (.slice A3 (expL la).length c3) := (blk_cell HSx.out 0).trans rfl
                  have q1 : w9.cell? ⟨gs, 1, none⟩ = some (.slice A4 (expL lb).length c4) := (blk_cell HSx.out 1).trans rfl
                  have q2 : w9.cell? ⟨gp, 0, none⟩ = some (.int .i64 0) := (blk_cell HPx.out 0).trans rfl
                  have q3 : w9.cell? ⟨gp, 1, none⟩ = some (.int .i64 0) := (blk_cell HPx.out 1).trans rfl
                  rw [HDd.out]
                  simp [Leaves, settle, results, Tryd.results12, go_sem, q0, q1, q2, q3, hu24, hu34]
                  exact ⟨_, _, rfl, HO1x.out, HO2x.out, HBx.out⟩
            · have d1 : decide (a < T.size) = true := decide_eq_true (hnil.2 ht2)
              have d2 : decide ((a : Int) < (T.size : Int)) = true := decide_eq_true (by have := hnil.2 ht2; omega)
              have d3 : (a : Int) < (T.size : Int) := by have := hnil.2 ht2; omega
              have HT2 := Aside0.mk ht2
              clear hnil ht2
              go_wp2_with fail
              refine (fail_calls HRd.out).mono ?_
              rintro e wq ⟨rfl, rfl⟩
              have hd : D = (([], []), (100, ((ps T.size t2 : Nat) : Int))) := by
                rw [← HD.out]
                unfold pS
                rw [if_pos HW1.out, HP1.out]
                dsimp only
                rw [if_pos HW2.out, HP2.out]
                dsimp only
                rw [if_neg HT2.out]
              unfold thrown
              go_wp2
              refine leaves_cons (f := 21) (args := #[.pointer (some ⟨gs, 0, none⟩), .pointer (some ⟨gp, 0, none⟩)]) (by simp) (by simp [go_sem]) ?_
              refine (catch_panicking gs gp _ [] wq HS.out HPp.out HNe.out).mono ?_
              rintro e u' w'' ⟨rfl, rfl, rfl⟩
              have HB8 := Aside0.mk (HKb.out.below HG3.out.2.2 HB3.out)
              have HSx := Aside0.mk (show ((((wq.setCell ⟨gs, 0, none⟩ (.slice none 0 0)).setCell ⟨gs, 1, none⟩ (.slice none 0 0)).setCell ⟨gp, 0, none⟩ (.int .i64 100)).setCell ⟨gp, 1, none⟩ (.int .i64 ((ps T.size t2 : Nat) : Int))).heap[gs]? = some (.cells #[.slice none 0 0, .slice none 0 0] 24 (0, 0)) from blk_far (blk_far (blk_put (cs := #[.slice none 0 0, .slice none 0 0]) (blk_put (cs := #[.slice none 0 0, .slice none 0 0]) HS.out 0 _ rfl) 1 _ rfl) HNe.out _) HNe.out _)
              have HPx := Aside0.mk (show ((((wq.setCell ⟨gs, 0, none⟩ (.slice none 0 0)).setCell ⟨gs, 1, none⟩ (.slice none 0 0)).setCell ⟨gp, 0, none⟩ (.int .i64 100)).setCell ⟨gp, 1, none⟩ (.int .i64 ((ps T.size t2 : Nat) : Int))).heap[gp]? = some (.cells #[.int .i64 100, .int .i64 ((ps T.size t2 : Nat) : Int)] 34 (0, 0)) from blk_put (cs := #[.int .i64 100, .int .i64 0]) (blk_put (cs := #[.int .i64 0, .int .i64 0]) (blk_far (blk_far HPp.out HNe.out.symm _) HNe.out.symm _) 0 _ rfl) 1 _ rfl)
              have HBx := Aside0.mk (show Below w.heap.size w ((((wq.setCell ⟨gs, 0, none⟩ (.slice none 0 0)).setCell ⟨gs, 1, none⟩ (.slice none 0 0)).setCell ⟨gp, 0, none⟩ (.int .i64 100)).setCell ⟨gp, 1, none⟩ (.int .i64 ((ps T.size t2 : Nat) : Int))) from (((HB8.out.setCell (p := ⟨gs, 0, none⟩) HGs.out _).setCell (p := ⟨gs, 1, none⟩) HGs.out _).setCell (p := ⟨gp, 0, none⟩) HGp.out _).setCell (p := ⟨gp, 1, none⟩) HGp.out _)
              generalize ((((wq.setCell ⟨gs, 0, none⟩ (.slice none 0 0)).setCell ⟨gs, 1, none⟩ (.slice none 0 0)).setCell ⟨gp, 0, none⟩ (.int .i64 100)).setCell ⟨gp, 1, none⟩ (.int .i64 ((ps T.size t2 : Nat) : Int))) = w9 at HSx HPx HBx ⊢
              have q0 : w9.cell? ⟨gs, 0, none⟩ = some (.slice none 0 0) := (blk_cell HSx.out 0).trans rfl
              have q1 : w9.cell? ⟨gs, 1, none⟩ = some (.slice none 0 0) := (blk_cell HSx.out 1).trans rfl
              have q2 : w9.cell? ⟨gp, 0, none⟩ = some (.int .i64 100) := (blk_cell HPx.out 0).trans rfl
              have q3 : w9.cell? ⟨gp, 1, none⟩ = some (.int .i64 ((ps T.size t2 : Nat) : Int)) := (blk_cell HPx.out 1).trans rfl
              rw [hd]
              simp [Leaves, settle, results, Tryd.results12, go_sem, q0, q1, q2, q3, hu24, hu34]
              exact dend_none HBx.out _ _
        · have HWn := Aside0.mk (show wd t ≠ bDraws from hw)
          clear hw
          replace HS := Aside0.mk (hk.kb.blk HS.out HG3.out.1 (by simp))
          replace HPp := Aside0.mk (hk.kb.blk HPp.out HG3.out.2.1 (by simp))
          replace HKb := Aside0.mk (HKb.out.trans hk)
          clear hk
          have hd : D = (([], []), (100, ((ps T.size t : Nat) : Int))) := by
            rw [← HD.out]
            unfold pS
            rw [if_pos HW1.out, HP1.out]
            dsimp only
            rw [if_neg HWn.out]
          unfold thrown
          go_wp2
          refine leaves_cons (f := 21) (args := #[.pointer (some ⟨gs, 0, none⟩), .pointer (some ⟨gp, 0, none⟩)]) (by simp) (by simp [go_sem]) ?_
          refine (catch_panicking gs gp _ [] w7 HS.out HPp.out HNe.out).mono ?_
          rintro e u' w'' ⟨rfl, rfl, rfl⟩
          have HB8 := Aside0.mk (HKb.out.below HG3.out.2.2 HB3.out)
          have HSx := Aside0.mk (show ((((w7.setCell ⟨gs, 0, none⟩ (.slice none 0 0)).setCell ⟨gs, 1, none⟩ (.slice none 0 0)).setCell ⟨gp, 0, none⟩ (.int .i64 100)).setCell ⟨gp, 1, none⟩ (.int .i64 ((ps T.size t : Nat) : Int))).heap[gs]? = some (.cells #[.slice none 0 0, .slice none 0 0] 24 (0, 0)) from blk_far (blk_far (blk_put (cs := #[.slice none 0 0, .slice none 0 0]) (blk_put (cs := #[.slice none 0 0, .slice none 0 0]) HS.out 0 _ rfl) 1 _ rfl) HNe.out _) HNe.out _)
          have HPx := Aside0.mk (show ((((w7.setCell ⟨gs, 0, none⟩ (.slice none 0 0)).setCell ⟨gs, 1, none⟩ (.slice none 0 0)).setCell ⟨gp, 0, none⟩ (.int .i64 100)).setCell ⟨gp, 1, none⟩ (.int .i64 ((ps T.size t : Nat) : Int))).heap[gp]? = some (.cells #[.int .i64 100, .int .i64 ((ps T.size t : Nat) : Int)] 34 (0, 0)) from blk_put (cs := #[.int .i64 100, .int .i64 0]) (blk_put (cs := #[.int .i64 0, .int .i64 0]) (blk_far (blk_far HPp.out HNe.out.symm _) HNe.out.symm _) 0 _ rfl) 1 _ rfl)
          have HBx := Aside0.mk (show Below w.heap.size w ((((w7.setCell ⟨gs, 0, none⟩ (.slice none 0 0)).setCell ⟨gs, 1, none⟩ (.slice none 0 0)).setCell ⟨gp, 0, none⟩ (.int .i64 100)).setCell ⟨gp, 1, none⟩ (.int .i64 ((ps T.size t : Nat) : Int))) from (((HB8.out.setCell (p := ⟨gs, 0, none⟩) HGs.out _).setCell (p := ⟨gs, 1, none⟩) HGs.out _).setCell (p := ⟨gp, 0, none⟩) HGp.out _).setCell (p := ⟨gp, 1, none⟩) HGp.out _)
          generalize ((((w7.setCell ⟨gs, 0, none⟩ (.slice none 0 0)).setCell ⟨gs, 1, none⟩ (.slice none 0 0)).setCell ⟨gp, 0, none⟩ (.int .i64 100)).setCell ⟨gp, 1, none⟩ (.int .i64 ((ps T.size t : Nat) : Int))) = w9 at HSx HPx HBx ⊢
          have q0 : w9.cell? ⟨gs, 0, none⟩ = some (.slice none 0 0) := (blk_cell HSx.out 0).trans rfl
          have q1 : w9.cell? ⟨gs, 1, none⟩ = some (.slice none 0 0) := (blk_cell HSx.out 1).trans rfl
          have q2 : w9.cell? ⟨gp, 0, none⟩ = some (.int .i64 100) := (blk_cell HPx.out 0).trans rfl
          have q3 : w9.cell? ⟨gp, 1, none⟩ = some (.int .i64 ((ps T.size t : Nat) : Int)) := (blk_cell HPx.out 1).trans rfl
          rw [hd]
          simp [Leaves, settle, results, Tryd.results12, go_sem, q0, q1, q2, q3, hu24, hu34]
          exact dend_none HBx.out _ _
    · have HWn := Aside0.mk (show wd ts ≠ bPicks from hw)
      clear hw
      replace HS := Aside0.mk (hk.kb.blk HS.out HG3.out.1 (by simp))
      replace HPp := Aside0.mk (hk.kb.blk HPp.out HG3.out.2.1 (by simp))
      replace HKb := Aside0.mk (HKb.out.trans hk)
      clear hk
      have hd : D = (([], []), (100, ((ps T.size ts : Nat) : Int))) := by
        rw [← HD.out]
        unfold pS
        rw [if_neg HWn.out]
      unfold thrown
      go_wp2
      refine leaves_cons (f := 21) (args := #[.pointer (some ⟨gs, 0, none⟩), .pointer (some ⟨gp, 0, none⟩)]) (by simp) (by simp [go_sem]) ?_
      refine (catch_panicking gs gp _ [] w5 HS.out HPp.out HNe.out).mono ?_
      rintro e u' w'' ⟨rfl, rfl, rfl⟩
      have HB8 := Aside0.mk (HKb.out.below HG3.out.2.2 HB3.out)
      have HSx := Aside0.mk (show ((((w5.setCell ⟨gs, 0, none⟩ (.slice none 0 0)).setCell ⟨gs, 1, none⟩ (.slice none 0 0)).setCell ⟨gp, 0, none⟩ (.int .i64 100)).setCell ⟨gp, 1, none⟩ (.int .i64 ((ps T.size ts : Nat) : Int))).heap[gs]? = some (.cells #[.slice none 0 0, .slice none 0 0] 24 (0, 0)) from blk_far (blk_far (blk_put (cs := #[.slice none 0 0, .slice none 0 0]) (blk_put (cs := #[.slice none 0 0, .slice none 0 0]) HS.out 0 _ rfl) 1 _ rfl) HNe.out _) HNe.out _)
      have HPx := Aside0.mk (show ((((w5.setCell ⟨gs, 0, none⟩ (.slice none 0 0)).setCell ⟨gs, 1, none⟩ (.slice none 0 0)).setCell ⟨gp, 0, none⟩ (.int .i64 100)).setCell ⟨gp, 1, none⟩ (.int .i64 ((ps T.size ts : Nat) : Int))).heap[gp]? = some (.cells #[.int .i64 100, .int .i64 ((ps T.size ts : Nat) : Int)] 34 (0, 0)) from blk_put (cs := #[.int .i64 100, .int .i64 0]) (blk_put (cs := #[.int .i64 0, .int .i64 0]) (blk_far (blk_far HPp.out HNe.out.symm _) HNe.out.symm _) 0 _ rfl) 1 _ rfl)
      have HBx := Aside0.mk (show Below w.heap.size w ((((w5.setCell ⟨gs, 0, none⟩ (.slice none 0 0)).setCell ⟨gs, 1, none⟩ (.slice none 0 0)).setCell ⟨gp, 0, none⟩ (.int .i64 100)).setCell ⟨gp, 1, none⟩ (.int .i64 ((ps T.size ts : Nat) : Int))) from (((HB8.out.setCell (p := ⟨gs, 0, none⟩) HGs.out _).setCell (p := ⟨gs, 1, none⟩) HGs.out _).setCell (p := ⟨gp, 0, none⟩) HGp.out _).setCell (p := ⟨gp, 1, none⟩) HGp.out _)
      generalize ((((w5.setCell ⟨gs, 0, none⟩ (.slice none 0 0)).setCell ⟨gs, 1, none⟩ (.slice none 0 0)).setCell ⟨gp, 0, none⟩ (.int .i64 100)).setCell ⟨gp, 1, none⟩ (.int .i64 ((ps T.size ts : Nat) : Int))) = w9 at HSx HPx HBx ⊢
      have q0 : w9.cell? ⟨gs, 0, none⟩ = some (.slice none 0 0) := (blk_cell HSx.out 0).trans rfl
      have q1 : w9.cell? ⟨gs, 1, none⟩ = some (.slice none 0 0) := (blk_cell HSx.out 1).trans rfl
      have q2 : w9.cell? ⟨gp, 0, none⟩ = some (.int .i64 100) := (blk_cell HPx.out 0).trans rfl
      have q3 : w9.cell? ⟨gp, 1, none⟩ = some (.int .i64 ((ps T.size ts : Nat) : Int)) := (blk_cell HPx.out 1).trans rfl
      rw [hd]
      simp [Leaves, settle, results, Tryd.results12, go_sem, q0, q1, q2, q3, hu24, hu34]
      exact dend_none HBx.out _ _
end Go.Proofs.YtjlbimnafbngaaaDoor.Dec
