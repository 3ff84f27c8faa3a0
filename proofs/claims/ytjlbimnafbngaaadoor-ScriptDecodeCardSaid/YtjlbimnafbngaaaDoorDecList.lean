/- The reader of a script's text: its lists of items, to whatever depth. -/
import Derived.Test.YtjlbimnafbngaaaDoorDecNeed
import Derived.Test.YtjlbimnafbngaaaDoorDecSpec
import Derived.Deep.LoopGhost
namespace Go.Proofs.YtjlbimnafbngaaaDoor.Dec
open Go.RowKit Go.Proofs.YtjlbimnafbngaaaDoorW.PrintWords Go.Proofs.YtjlbimnafbngaaaDoorW.PrintLast Go.Proofs.YtjlbimnafbngaaaDoorW.PrintMore Go.Proofs.YtjlbimnafbngaaaDoor.BitMath Go.Proofs.YtjlbimnafbngaaaDoor.ParsePure Go.Proofs.YtjlbimnafbngaaaDoor.PScriptDecode Go.Proofs.YtjlbimnafbngaaaDoor.Fmt
set_option linter.unusedVariables false
set_option linter.unusedSimpArgs false
theorem info78 : (Tryd.prog.info? 78).map (fun i => (i.zero, i.size, i.bytes)) = some (some (.agg #[.int .i64 0, .slice none 0 0, .int .i64 0]), 3, 40) := by kernel_rfl
theorem below_le {B C : Nat} {w w' : World} (h : Below B w w') (hc : C ≤ B) : Below C w w' := ⟨h.os, h.tape, h.output, h.size, fun k hk => h.block k (by omega)⟩
theorem Kb.trans {a b c : World} {gr : Nat} (h : Kb a b gr) (k : Kb b c gr) : Kb a c gr := ⟨h.kb.trans k.kb (.inl rfl), h.bl.trans k.bl⟩
theorem Kb.of_below {w w' : World} {gr : Nat} (hb : Below w.heap.size w w') (hle : gr ≤ w.heap.size) : Kb w w' gr := ⟨KeepBut.of_below hb _ _, below_le hb hle⟩
theorem Kb.sz {w w1 : World} {gr : Nat} (h : Kb w w1 gr) : w.heap.size ≤ w1.heap.size := h.kb.1
theorem Kb.lt {w w1 : World} {gr : Nat} (h : Kb w w1 gr) (hlt : gr < w.heap.size) : gr < w1.heap.size := Nat.lt_of_lt_of_le hlt h.sz
theorem Kb.below {w w1 w0 : World} {gr : Nat} (h : Kb w w1 gr) (h0 : w0.heap.size ≤ gr) (hb : Below w0.heap.size w0 w) : Below w0.heap.size w0 w1 := hb.trans (below_le h.bl h0)
theorem Kb.box {w w1 : World} {gr gx : Nat} (h : Kb w w1 gr) (hlt : gr < w.heap.size) (hg : w.heap.size ≤ gx) (j : Nat) (u : Value) : Kb w (w1.setCell ⟨gx, j, none⟩ u) gr := by
  refine ⟨⟨by simpa [World.setCell] using h.kb.1, fun i hi hn hr => ?_⟩, h.bl.setCell (p := ⟨gx, j, none⟩) (by show gr ≤ gx; omega) u⟩
  exact (Below.heap_setCell w1 ⟨gx, j, none⟩ u i (by show i ≠ gx; omega)).trans (h.kb.2 i hi hn hr)
theorem Kb.new {w w1 : World} {gr gx : Nat} {o : Obj} (h : Kb w w1 gr) (hlt : gr < w.heap.size) (hX : w1.heap[gx]? = some o) {k : Nat} (hk : w1.heap.size ≤ k) : k ≠ gr ∧ k ≠ gx := by
  have h1 := h.lt hlt
  have h2 := blk_lt hX
  omega
theorem Kb.grown {α : Type} {d : Kd α} {w W w1 : World} {gr : Nat} {ok : Nat → Prop} {v : Value} {xs : List α} {e : Nat} (h : Kb w W gr) (hA : d.R e W w.heap.size ok v xs) (hb : Below w.heap.size W w1) (hg : W.grownBy w1 v.ownBlock) (hlt : gr < w.heap.size) : Kb w w1 gr :=
  ⟨h.kb.trans (KeepBut.of_grown hg gr) (Kd.R_base2 hA), h.bl.trans (below_le hb (Nat.le_of_lt hlt))⟩
theorem Rd.lt {w : World} {gr : Nat} {T : ByteArray} {ts : List Tok} (h : Rd w gr T ts) : gr < w.heap.size := by
  obtain ⟨a, n, V, hR, hA⟩ := h
  exact blk_lt hR
theorem Rd.grown {α : Type} {d : Kd α} {w W w1 : World} {gr : Nat} {T : ByteArray} {ts : List Tok} {ok : Nat → Prop} {v : Value} {xs : List α} {e : Nat} (h : Rd W gr T ts) (hA : d.R e W w.heap.size ok v xs) (hg : W.grownBy w1 v.ownBlock) (hlt : gr < w.heap.size) : Rd w1 gr T ts := by
  obtain ⟨a, n, V, hR, hAt⟩ := h
  refine ⟨a, n, V, (hg.block gr (blk_lt hR) ?_).trans hR, hAt⟩
  intro he
  have := Kd.R_base hA gr he.symm
  omega
theorem Rd.far {w : World} {gr gx : Nat} {T : ByteArray} {ts : List Tok} (h : Rd w gr T ts) (hne : gx ≠ gr) (j : Nat) (u : Value) : Rd (w.setCell ⟨gx, j, none⟩ u) gr T ts := by
  obtain ⟨a, n, V, hR, hAt⟩ := h
  exact ⟨a, n, V, (Below.heap_setCell w ⟨gx, j, none⟩ u gr (fun e => hne e.symm)).trans hR, hAt⟩
/-- What a list comes to. -/
def LEnd (T : ByteArray) (gr wS : Nat) (w' : World) (e : Ending) : Res → Prop
  | .inl p => e = thrown p
  | .inr (l, t) => ∃ v, e = .returned v ∧ k78.R 78 w' wS (fun k_ => k_ ≠ gr) v l ∧ Rd w' gr T t
set_option maxHeartbeats 16000000 in
set_option maxRecDepth 100000 in
theorem list_calls (T : ByteArray) (hT : T.size ≤ 65536) (gr : Nat) (w0 : World) (hP0 : PowAt w0) (hg0 : w0.heap.size ≤ gr) (k : Nat) : ∀ (o : Nat) (ts : List Tok) (w : World) (r : Res) (y : Int), y = (o : Int) → k ≤ 70000 → o ≤ 8 → Rd w gr T ts → Below w0.heap.size w0 w → pL T.size k o ts = some r →
    Calls Tryd.prog 24 #[.pointer (some ⟨gr, 0, none⟩), .int .i64 y] w fun e w' => Kb w w' gr ∧ LEnd T gr w.heap.size w' e r := by
  have HT := Aside0.mk hT
  have HPow := Aside0.mk hP0
  have HG0 := Aside0.mk hg0
  clear hT hP0 hg0
  induction k using Nat.strongRecOn with
  | _ k ih =>
  intro o ts w r y hy hk70 ho hR hB hr
  subst hy
  have IH := Aside0.mk ih
  have HBG := Aside0.mk (And.intro HG0.out hB)
  have HSz := Aside0.mk hR.lt
  have HRd0 := Aside0.mk hR
  have HP0 := Aside0.mk hr
  have HK70 := Aside0.mk hk70
  have hoI : (o : Int) ≤ 8 := by omega
  clear ih hk70 hR hB hr
  have hu78 := Tryd.underlying78
  go_enter Tryd.func24, Tryd.ntmps24
  go_wp2
  go_loopg [5] k (fun kq v5 w' => ∃ (acc : List S78) (ts : List Tok) (r1 : Res), Aside0 (pL T.size kq o ts = some r1) ∧ Aside0 (k78.R 78 w' w.heap.size (fun k_ => k_ ≠ gr) v5 acc) ∧ Aside0 (Rd w' gr T ts) ∧ Aside0 (Kb w w' gr) ∧ Aside0 (kq ≤ k) ∧ Aside0 (acc.length + kq ≤ k) ∧ Aside0 (ahead acc r1 = r))
  case atStart => exact ⟨[], ts, r, HP0, ⟨Kd.R_nil _ _ _ _ _⟩, HRd0, ⟨Kb.refl _ _⟩, ⟨Nat.le_refl _⟩, ⟨by simp⟩, ⟨by cases r with | inl p => rfl | inr lt => rfl⟩⟩
  case round =>
    clear HP0 HRd0
    obtain ⟨acc, ts, r1, HP, HA, HRd, HKb, HK1, HL1, HEnd⟩ := hrel
    cases gk with
    | zero => have := HP.out; simp [pL] at this
    | succ k1 =>
      have HKq := Aside0.mk (And.intro HK1.out HK70.out)
      have HLen := Aside0.mk (And.intro HL1.out HK70.out)
      obtain ⟨A5, c5, rfl, _, _⟩ := Kd.R_reads HA.out
      go_wp2_with ((with_reducible refine gate_dst (N := 6) rfl ?_); refine box_event ?hg (N := 6) ?hd (cs := #[.int .i64 0, .slice none 0 0, .int .i64 0]) (t := 78) ?hr ?_; (case hd => rfl); (case hg => rfl); (case hr => first | (go_simp; done) | (go_simp; rfl)); intro gx hg wa hbox hb; have hBa := hb; have hBox := hbox; have hGx := hg; have x0 : wa.cell? ⟨gx, 0, none⟩ = some (.int .i64 0) := (blk_cell hbox 0).trans rfl; have x1 : wa.cell? ⟨gx, 1, none⟩ = some (.slice none 0 0) := (blk_cell hbox 1).trans rfl; have x2 : wa.cell? ⟨gx, 2, none⟩ = some (.int .i64 0) := (blk_cell hbox 2).trans rfl; have xf0 := blk_frozen hbox 0; have xf1 := blk_frozen hbox 1; have xf2 := blk_frozen hbox 2; have HBa := Aside0.mk hBa; have HBox := Aside0.mk hBox; have HGx := Aside0.mk hGx; clear hb hbox hg hBa hBox hGx)
      have HGX := Aside0.mk (show w.heap.size ≤ gx ∧ gx ≠ gr from by have h1 := HGx.out; have h2 := HKb.out.sz; have h3 := HSz.out; omega)
      have HX := Aside0.mk (show (((wa.setCell ⟨gx, 0, none⟩ (.int .i64 0)).setCell ⟨gx, 1, none⟩ (.slice none 0 0)).setCell ⟨gx, 2, none⟩ (.int .i64 1)).heap[gx]? = some (.cells #[.int .i64 0, .slice none 0 0, .int .i64 1] 78 (0, 0)) from blk_put (cs := #[.int .i64 0, .slice none 0 0, .int .i64 0]) (blk_put (cs := #[.int .i64 0, .slice none 0 0, .int .i64 0]) (blk_put (cs := #[.int .i64 0, .slice none 0 0, .int .i64 0]) HBox.out 0 _ rfl) 1 _ rfl) 2 _ rfl)
      have HA2 := Aside0.mk (Kd.R_far (Kd.R_far (Kd.R_far (Kd.R_below (Kd.R_mono (ok' := fun k_ => k_ ≠ gr ∧ k_ ≠ gx) (Kd.R_bound HA.out) (fun k_ h => ⟨h.1, by have h1 := HGx.out; have h2 := h.2.2.1; omega⟩)) HBa.out) (p := ⟨gx, 0, none⟩) (fun _ h => h.2) (.int .i64 0)) (p := ⟨gx, 1, none⟩) (fun _ h => h.2) (.slice none 0 0)) (p := ⟨gx, 2, none⟩) (fun _ h => h.2) (.int .i64 1))
      have HRd2 := Aside0.mk ((((HRd.out.keep HBa.out).far HGX.out.2 0 (.int .i64 0)).far HGX.out.2 1 (.slice none 0 0)).far HGX.out.2 2 (.int .i64 1))
      have HKb2 := Aside0.mk ((((HKb.out.trans (Kb.of_below HBa.out (Nat.le_of_lt (HKb.out.lt HSz.out)))).box HSz.out HGX.out.1 0 (.int .i64 0)).box HSz.out HGX.out.1 1 (.slice none 0 0)).box HSz.out HGX.out.1 2 (.int .i64 1))
      clear HA HRd HKb HBa HBox HGx x0 x1 x2 xf0 xf1 xf2
      have HA := HA2
      have HRd := HRd2
      have HKb := HKb2
      clear HA2 HRd2 HKb2
      generalize (((wa.setCell ⟨gx, 0, none⟩ (.int .i64 0)).setCell ⟨gx, 1, none⟩ (.slice none 0 0)).setCell ⟨gx, 2, none⟩ (.int .i64 1)) = w1 at HX HA HRd HKb ⊢
      refine (number_calls HT.out (HPow.out.below (HKb.out.below HBG.out.1 HBG.out.2)) HRd.out).mono ?_
      rintro e w2 ⟨hb, v, okn, rfl, hn⟩
      have hk := Kb.of_below hb (gr := gr) (Nat.le_of_lt (HKb.out.lt HSz.out))
      have hR := HRd.out.keep hb
      replace HX := Aside0.mk (hk.kb.blk HX.out HGX.out.2 (by simp))
      replace HA := Aside0.mk (Kd.R_keep HA.out hk.kb (fun _ h => h.1))
      replace HRd := Aside0.mk hR
      replace HKb := Aside0.mk (HKb.out.trans hk)
      clear hR hk
      clear hb
      rcases hn with ⟨rfl, hn⟩ | ⟨rfl, hn⟩
      · replace HP := Aside0.mk ((pL_num (E := T.size) (k := k1) (o := o) hn).symm.trans HP.out)
        clear hn
        have x0 : w2.cell? ⟨gx, 0, none⟩ = some (.int .i64 0) := (blk_cell HX.out 0).trans rfl
        have x1 : w2.cell? ⟨gx, 1, none⟩ = some (.slice none 0 0) := (blk_cell HX.out 1).trans rfl
        have x2 : w2.cell? ⟨gx, 2, none⟩ = some (.int .i64 1) := (blk_cell HX.out 2).trans rfl
        have xf0 := blk_frozen HX.out 0
        go_wp2_with fail
        have HX2 := Aside0.mk (show (w2.setCell ⟨gx, 0, none⟩ (.int .i64 v)).heap[gx]? = some (.cells #[.int .i64 v, .slice none 0 0, .int .i64 1] 78 (0, 0)) from blk_put (cs := #[.int .i64 0, .slice none 0 0, .int .i64 1]) HX.out 0 _ rfl)
        have hk := HKb.out.box HSz.out HGX.out.1 0 (.int .i64 v)
        have hR := HRd.out.far HGX.out.2 0 (.int .i64 v)
        have hA := Kd.R_far HA.out (p := ⟨gx, 0, none⟩) (fun _ h => h.2) (.int .i64 v)
        clear HX HKb HRd HA x0 x1 x2 xf0
        have HX := HX2
        have HKb := Aside0.mk hk
        have HRd := Aside0.mk hR
        have HA := Aside0.mk hA
        clear HX2 hk hR hA
        generalize w2.setCell ⟨gx, 0, none⟩ (.int .i64 v) = w3 at HX HKb HRd HA ⊢
        refine (next_calls HT.out HRd.out).mono ?_
        rintro e w4 ⟨rfl, hR, hk⟩
        replace HX := Aside0.mk (hk.kb.blk HX.out HGX.out.2 (by simp))
        replace HA := Aside0.mk (Kd.R_keep HA.out hk.kb (fun _ h => h.1))
        replace HRd := Aside0.mk hR
        replace HKb := Aside0.mk (HKb.out.trans hk)
        clear hR hk
        generalize ts.tail = tb at HRd HP
        have HI := Aside0.mk (Kd.R_nil k78 78 w4 w.heap.size (fun k_ => k_ ≠ gr ∧ k_ ≠ gx ∧ some k_ ≠ (Value.slice A5 acc.length c5).ownBlock))
        obtain ⟨a, n_, V, hRa, hAt⟩ := id HRd.out
        have z3 := hRa.z3
        have hVw : wd tb = V.data.toList := hAt.word.symm
        clear hRa hAt
        by_cases hw : wd tb = [42]
        · have e2 : V.toList = [42] := by rw [Go.ByteArray.toList_eq, ← hVw]; exact hw
          have e1 : (V.toList == [42]) = true := by rw [e2]; rfl
          clear hVw
          have x0 : w4.cell? ⟨gx, 0, none⟩ = some (.int .i64 v) := (blk_cell HX.out 0).trans rfl
          have x1 : w4.cell? ⟨gx, 1, none⟩ = some (.slice none 0 0) := (blk_cell HX.out 1).trans rfl
          have x2 : w4.cell? ⟨gx, 2, none⟩ = some (.int .i64 1) := (blk_cell HX.out 2).trans rfl
          go_wp2_with fail
          refine (next_calls HT.out HRd.out).mono ?_
          rintro e wb1 ⟨rfl, hR, hk⟩
          clear z3 e1 e2 x0 x1 x2
          replace HX := Aside0.mk (hk.kb.blk HX.out HGX.out.2 (by simp))
          replace HA := Aside0.mk (Kd.R_keep HA.out hk.kb (fun _ h => h.1))
          replace HRd := Aside0.mk hR
          replace HKb := Aside0.mk (HKb.out.trans hk)
          replace HI := Aside0.mk (Kd.R_keep HI.out hk.kb (fun _ h => h.1))
          clear hR hk
          go_wp2_with fail
          refine (number_calls HT.out (HPow.out.below (HKb.out.below HBG.out.1 HBG.out.2)) HRd.out).mono ?_
          rintro e wb2 ⟨hb, v2, ok2, rfl, hn2⟩
          have hk := Kb.of_below hb (gr := gr) (Nat.le_of_lt (HKb.out.lt HSz.out))
          have hR := HRd.out.keep hb
          replace HX := Aside0.mk (hk.kb.blk HX.out HGX.out.2 (by simp))
          replace HA := Aside0.mk (Kd.R_keep HA.out hk.kb (fun _ h => h.1))
          replace HRd := Aside0.mk hR
          replace HKb := Aside0.mk (HKb.out.trans hk)
          replace HI := Aside0.mk (Kd.R_keep HI.out hk.kb (fun _ h => h.1))
          clear hR hk
          clear hb
          rcases hn2 with ⟨rfl, hn2⟩ | ⟨rfl, hn2⟩
          · by_cases hv1 : v2 < 1
            · have d1 : decide (v2 < 1) = true := decide_eq_true hv1
              have hend : LEnd T gr w.heap.size wb2 (thrown (ps T.size tb.tail)) (ahead acc r1) := by
                have h := pRest_bad (E := T.size) (k := k1) (o := o) (x := (⟨v, [], 1⟩ : S78)) hw (fun v hv => by rw [hn2] at hv; injection hv with hv; omega)
                rw [HP.out] at h
                injection h with h
                rw [h]
                rfl
              clear hn2 hw
              go_wp2_with fail
              refine (fail_calls HRd.out).mono ?_
              rintro e wb3 ⟨rfl, rfl⟩
              unfold thrown
              go_wp2
              exact ⟨rfl, HKb.out, by rw [← HEnd.out]; exact hend⟩
            · have d1 : decide (v2 < 1) = false := decide_eq_false hv1
              have d4 : 1 ≤ v2 := by omega
              by_cases hv2 : v2 > 1048576
              · have d2 : decide (v2 > 1048576) = true := decide_eq_true hv2
                have d3 : 1048576 < v2 := hv2
                have hend : LEnd T gr w.heap.size wb2 (thrown (ps T.size tb.tail)) (ahead acc r1) := by
                  have h := pRest_bad (E := T.size) (k := k1) (o := o) (x := (⟨v, [], 1⟩ : S78)) hw (fun v hv => by rw [hn2] at hv; injection hv with hv; omega)
                  rw [HP.out] at h
                  injection h with h
                  rw [h]
                  rfl
                clear hn2 hw
                go_wp2_with fail
                refine (fail_calls HRd.out).mono ?_
                rintro e wb3 ⟨rfl, rfl⟩
                unfold thrown
                go_wp2
                exact ⟨rfl, HKb.out, by rw [← HEnd.out]; exact hend⟩
              · have d2 : decide (v2 > 1048576) = false := decide_eq_false hv2
                have d3 : v2 ≤ 1048576 := by omega
                obtain ⟨q2, hq2, hr2⟩ := pGo_some ((pRest_count (E := T.size) (k := k1) (o := o) (x := (⟨v, [], 1⟩ : S78)) hw hn2 ⟨by omega, by omega⟩).symm.trans HP.out)
                have HQ2 := Aside0.mk hq2
                have HR2 := Aside0.mk hr2
                clear hq2 hr2 hn2 hw
                have x0 : wb2.cell? ⟨gx, 0, none⟩ = some (.int .i64 v) := (blk_cell HX.out 0).trans rfl
                have x1 : wb2.cell? ⟨gx, 1, none⟩ = some (.slice none 0 0) := (blk_cell HX.out 1).trans rfl
                have x2 : wb2.cell? ⟨gx, 2, none⟩ = some (.int .i64 1) := (blk_cell HX.out 2).trans rfl
                have xf2 := blk_frozen HX.out 2
                go_wp2_with fail
                have HX2 := Aside0.mk (show (wb2.setCell ⟨gx, 2, none⟩ (.int .i64 v2)).heap[gx]? = some (.cells #[.int .i64 v, .slice none 0 0, .int .i64 v2] 78 (0, 0)) from blk_put (cs := #[.int .i64 v, .slice none 0 0, .int .i64 1]) HX.out 2 _ rfl)
                have hk := HKb.out.box HSz.out HGX.out.1 2 (.int .i64 v2)
                have hR := HRd.out.far HGX.out.2 2 (.int .i64 v2)
                have hA := Kd.R_far HA.out (p := ⟨gx, 2, none⟩) (fun _ h => h.2) (.int .i64 v2)
                have hI := Kd.R_far HI.out (p := ⟨gx, 2, none⟩) (fun _ h => h.2.1) (.int .i64 v2)
                replace HX := HX2
                replace HKb := Aside0.mk hk
                replace HRd := Aside0.mk hR
                replace HA := Aside0.mk hA
                replace HI := Aside0.mk hI
                clear HX2 hk hR hA hI x0 x1 x2 xf2
                generalize wb2.setCell ⟨gx, 2, none⟩ (.int .i64 v2) = wb4 at HX HKb HRd HA HI ⊢
                refine (next_calls HT.out HRd.out).mono ?_
                rintro e wb5 ⟨rfl, hR, hk⟩
                replace HX := Aside0.mk (hk.kb.blk HX.out HGX.out.2 (by simp))
                replace HA := Aside0.mk (Kd.R_keep HA.out hk.kb (fun _ h => h.1))
                replace HRd := Aside0.mk hR
                replace HKb := Aside0.mk (HKb.out.trans hk)
                replace HI := Aside0.mk (Kd.R_keep HI.out hk.kb (fun _ h => h.1))
                clear hR hk
                have x0 : wb5.cell? ⟨gx, 0, none⟩ = some (.int .i64 v) := (blk_cell HX.out 0).trans rfl
                have x1 : wb5.cell? ⟨gx, 1, none⟩ = some (.slice none 0 0) := (blk_cell HX.out 1).trans rfl
                have x2 : wb5.cell? ⟨gx, 2, none⟩ = some (.int .i64 v2) := (blk_cell HX.out 2).trans rfl
                go_wp2_with (first | ((with_reducible refine gate_builtin (b := .append) (xs := #[.tmp 75, .tmp 77]) rfl ?_); at_builtin; refine Kd.R_append k78 (w0 := wb5) w.heap.size rfl (.tmp 75) (.tmp 77) 58 78 (.agg #[.int .i64 0, .slice none 0 0, .int .i64 0]) 40 rfl Tryd.underlying58 info78 rfl (by decide) (by omega) (.slice A5 acc.length c5) acc ⟨(⟨v, [], 1⟩ : S78).f0, (⟨v, [], 1⟩ : S78).f1, v2⟩ [.int .i64 v, .slice none 0 0, .int .i64 v2] (fun k_ => k_ ≠ gr ∧ k_ ≠ gx) (fun k_ => k_ ≠ gr ∧ k_ ≠ gx ∧ some k_ ≠ (Value.slice A5 acc.length c5).ownBlock) rfl rfl ?aP ?aK ?aF ?aO ?aB ?aS ?aL ?_; (case aP => exact k78_mkM _ _ _ ⟨(⟨v, [], 1⟩ : S78).f0, (⟨v, [], 1⟩ : S78).f1, v2⟩ HI.out); (case aK => exact fun _ h => ⟨⟨h.1, h.2.1⟩, h.2.2⟩); (case aB => exact Below.refl _ _); (case aF => exact fun k_ hk_ => HKb.out.new HSz.out HX.out hk_); (case aO => exact HA.out); (case aS => exact HKb.out.sz); (case aL => (have h1_ := HLen.out; have h2_ := HKq.out; omega)); intro v8 w8 ho hb hg hat; have HO8 := Aside0.mk ho; have HK8 := Aside0.mk (HKb.out.grown HA.out hb hg HSz.out); have HR8 := Aside0.mk (HRd.out.grown HA.out hg HSz.out); obtain ⟨A8, c8, rfl, _, _⟩ := Kd.R_reads ho; clear ho hb hg hat))
                go_roundg k1
                case measure => have := HKq.out; omega
                case rel => exact ⟨acc ++ [⟨(⟨v, [], 1⟩ : S78).f0, (⟨v, [], 1⟩ : S78).f1, v2⟩], _, _, HQ2, ⟨by have h_ := Kd.R_mono (ok' := fun k_ => k_ ≠ gr) HO8.out (fun _ h => h.1); rw [List.length_append, List.length_singleton] at h_; exact h_⟩, HR8, HK8, ⟨by have := HKq.out; omega⟩, ⟨by have := HLen.out; simp; omega⟩, ⟨by rw [← ahead_ahead, ← HR2.out]; exact HEnd.out⟩⟩
          · have hend : LEnd T gr w.heap.size wb2 (thrown (ps T.size tb.tail)) (ahead acc r1) := by
              have h := pRest_bad (E := T.size) (k := k1) (o := o) (x := (⟨v, [], 1⟩ : S78)) hw (fun v hv => by rw [hn2] at hv; cases hv)
              rw [HP.out] at h
              injection h with h
              rw [h]
              rfl
            clear hn2 hw
            go_wp2_with fail
            refine (fail_calls HRd.out).mono ?_
            rintro e wb3 ⟨rfl, rfl⟩
            unfold thrown
            go_wp2
            exact ⟨rfl, HKb.out, by rw [← HEnd.out]; exact hend⟩
        · have e2 : ¬ V.toList = [42] := by rw [Go.ByteArray.toList_eq, ← hVw]; exact hw
          have e1 : (V.toList == [42]) = false := beq_eq_false_iff_ne.mpr e2
          clear hVw
          obtain ⟨q2, hq2, hr2⟩ := pGo_some ((pRest_one (E := T.size) (k := k1) (o := o) (x := (⟨v, [], 1⟩ : S78)) hw).symm.trans HP.out)
          have HQ2 := Aside0.mk hq2
          have HR2 := Aside0.mk hr2
          clear hq2 hr2 hw
          have x0 : w4.cell? ⟨gx, 0, none⟩ = some (.int .i64 v) := (blk_cell HX.out 0).trans rfl
          have x1 : w4.cell? ⟨gx, 1, none⟩ = some (.slice none 0 0) := (blk_cell HX.out 1).trans rfl
          have x2 : w4.cell? ⟨gx, 2, none⟩ = some (.int .i64 1) := (blk_cell HX.out 2).trans rfl
          go_wp2_with (first | ((with_reducible refine gate_builtin (b := .append) (xs := #[.tmp 75, .tmp 77]) rfl ?_); at_builtin; refine Kd.R_append k78 (w0 := w4) w.heap.size rfl (.tmp 75) (.tmp 77) 58 78 (.agg #[.int .i64 0, .slice none 0 0, .int .i64 0]) 40 rfl Tryd.underlying58 info78 rfl (by decide) (by omega) (.slice A5 acc.length c5) acc (⟨v, [], 1⟩ : S78) [.int .i64 v, .slice none 0 0, .int .i64 1] (fun k_ => k_ ≠ gr ∧ k_ ≠ gx) (fun k_ => k_ ≠ gr ∧ k_ ≠ gx ∧ some k_ ≠ (Value.slice A5 acc.length c5).ownBlock) rfl rfl ?aP ?aK ?aF ?aO ?aB ?aS ?aL ?_; (case aP => exact k78_mkM _ _ _ (⟨v, [], 1⟩ : S78) HI.out); (case aK => exact fun _ h => ⟨⟨h.1, h.2.1⟩, h.2.2⟩); (case aB => exact Below.refl _ _); (case aF => exact fun k_ hk_ => HKb.out.new HSz.out HX.out hk_); (case aO => exact HA.out); (case aS => exact HKb.out.sz); (case aL => (have h1_ := HLen.out; have h2_ := HKq.out; omega)); intro v8 w8 ho hb hg hat; have HO8 := Aside0.mk ho; have HK8 := Aside0.mk (HKb.out.grown HA.out hb hg HSz.out); have HR8 := Aside0.mk (HRd.out.grown HA.out hg HSz.out); obtain ⟨A8, c8, rfl, _, _⟩ := Kd.R_reads ho; clear ho hb hg hat))
          go_roundg k1
          case measure => have := HKq.out; omega
          case rel => exact ⟨acc ++ [(⟨v, [], 1⟩ : S78)], _, _, HQ2, ⟨by have h_ := Kd.R_mono (ok' := fun k_ => k_ ≠ gr) HO8.out (fun _ h => h.1); rw [List.length_append, List.length_singleton] at h_; exact h_⟩, HR8, HK8, ⟨by have := HKq.out; omega⟩, ⟨by have := HLen.out; simp; omega⟩, ⟨by rw [← ahead_ahead, ← HR2.out]; exact HEnd.out⟩⟩
      · obtain ⟨a, n_, V, hRa, hAt⟩ := id HRd.out
        have z3 := hRa.z3
        have hVw : wd ts = V.data.toList := hAt.word.symm
        clear hRa hAt
        by_cases hc : wd ts = [40] ∧ o < 8
        · obtain ⟨q, hq, hq1, hq2, hq3, hq4⟩ := pL_grp hn hc HP.out
          have HQ := Aside0.mk hq
          have HQ1 := Aside0.mk hq1
          have HQ2 := Aside0.mk hq2
          have HQ3 := Aside0.mk hq3
          have HQ4 := Aside0.mk hq4
          have e2 : V.toList = [40] := by rw [Go.ByteArray.toList_eq, ← hVw]; exact hc.1
          have e1 : (V.toList == [40]) = true := by rw [e2]; rfl
          have d1 : decide ((o : Int) < 8) = true := decide_eq_true (by omega)
          have d2 : (o : Int) < 8 := by omega
          clear hVw hc hn hq hq1 hq2 hq3 hq4 HP
          go_wp2_with fail
          refine (next_calls HT.out HRd.out).mono ?_
          rintro e w3 ⟨rfl, hR, hk⟩
          clear z3 e1 e2
          replace HX := Aside0.mk (hk.kb.blk HX.out HGX.out.2 (by simp))
          replace HA := Aside0.mk (Kd.R_keep HA.out hk.kb (fun _ h => h.1))
          replace HRd := Aside0.mk hR
          replace HKb := Aside0.mk (HKb.out.trans hk)
          clear hR hk
          go_wp2_with fail
          refine (IH.out k1 (by have := HKq.out; omega) (o + 1) ts.tail w3 q _ (by omega) (by have := HKq.out; omega) (by omega) HRd.out (HKb.out.below HBG.out.1 HBG.out.2) HQ.out).mono ?_
          rintro e w4 ⟨hk, hend⟩
          cases q with
          | inl p =>
            have hend2 := HQ1.out p rfl
            obtain rfl : e = thrown p := hend
            replace HKb := Aside0.mk (HKb.out.trans hk)
            unfold thrown
            clear hk
            go_wp2
            exact ⟨rfl, HKb.out, by rw [← HEnd.out, hend2]; rfl⟩
          | inr lt =>
            obtain ⟨l, t⟩ := lt
            obtain ⟨v4, rfl, hI, hR⟩ := hend
            have hI2 := Kd.R_lower (Kd.R_mono (ok' := fun k_ => k_ ≠ gr ∧ k_ ≠ gx ∧ some k_ ≠ (Value.slice A5 acc.length c5).ownBlock) (Kd.R_bound hI) (fun k_ h => ⟨h.1, by have h1 := blk_lt HX.out; have h2 := h.2.1; omega, fun he => by have h1 := Kd.R_lt HA.out k_ he.symm; have h2 := h.2.1; omega⟩)) HKb.out.sz
            obtain ⟨A9, c9, rfl⟩ := Kd.R_slice hI2
            have HI := Aside0.mk hI2
            clear hI hI2
            replace HX := Aside0.mk (hk.kb.blk HX.out HGX.out.2 (by simp))
            replace HA := Aside0.mk (Kd.R_keep HA.out hk.kb (fun _ h => h.1))
            replace HRd := Aside0.mk hR
            replace HKb := Aside0.mk (HKb.out.trans hk)
            clear hR hk
            have x0 : w4.cell? ⟨gx, 0, none⟩ = some (.int .i64 0) := (blk_cell HX.out 0).trans rfl
            have x1 : w4.cell? ⟨gx, 1, none⟩ = some (.slice none 0 0) := (blk_cell HX.out 1).trans rfl
            have x2 : w4.cell? ⟨gx, 2, none⟩ = some (.int .i64 1) := (blk_cell HX.out 2).trans rfl
            have xf1 := blk_frozen HX.out 1
            by_cases hl : l = []
            · subst hl
              go_wp2_with fail
              have HX2 := Aside0.mk (show (w4.setCell ⟨gx, 1, none⟩ (.slice A9 0 c9)).heap[gx]? = some (.cells #[.int .i64 0, .slice A9 0 c9, .int .i64 1] 78 (0, 0)) from blk_put (cs := #[.int .i64 0, .slice none 0 0, .int .i64 1]) HX.out 1 _ rfl)
              have hk := HKb.out.box HSz.out HGX.out.1 1 (.slice A9 0 c9)
              have hR := HRd.out.far HGX.out.2 1 (.slice A9 0 c9)
              have hA := Kd.R_far HA.out (p := ⟨gx, 1, none⟩) (fun _ h => h.2) (.slice A9 0 c9)
              have hI := Kd.R_far HI.out (p := ⟨gx, 1, none⟩) (fun _ h => h.2.1) (.slice A9 0 c9)
              clear HX HKb HRd HA HI x0 x1 x2 xf1
              have HX := HX2
              have HKb := Aside0.mk hk
              have HRd := Aside0.mk hR
              have HA := Aside0.mk hA
              have HI := Aside0.mk hI
              clear HX2 hk hR hA hI
              generalize w4.setCell ⟨gx, 1, none⟩ (.slice A9 0 c9) = w5 at HX HKb HRd HA HI ⊢
              refine (fail_calls HRd.out).mono ?_
              rintro e wb3 ⟨rfl, rfl⟩
              have hend2 := HQ2.out t rfl
              unfold thrown
              go_wp2
              exact ⟨rfl, HKb.out, by rw [← HEnd.out, hend2]; rfl⟩
            · have hl0 : (l.length == 0) = false := by cases l with | nil => exact absurd rfl hl | cons => rfl
              have hl1 : ((l.length : Int) == 0) = false := by cases l with | nil => exact absurd rfl hl | cons => simp; omega
              have hl2 : ¬ (l.length : Int) = 0 := by cases l with | nil => exact absurd rfl hl | cons => simp; omega
              have HL9 := Aside0.mk hl
              clear hl
              go_wp2_with fail
              have HX2 := Aside0.mk (show (w4.setCell ⟨gx, 1, none⟩ (.slice A9 l.length c9)).heap[gx]? = some (.cells #[.int .i64 0, .slice A9 l.length c9, .int .i64 1] 78 (0, 0)) from blk_put (cs := #[.int .i64 0, .slice none 0 0, .int .i64 1]) HX.out 1 _ rfl)
              have hk := HKb.out.box HSz.out HGX.out.1 1 (.slice A9 l.length c9)
              have hR := HRd.out.far HGX.out.2 1 (.slice A9 l.length c9)
              have hA := Kd.R_far HA.out (p := ⟨gx, 1, none⟩) (fun _ h => h.2) (.slice A9 l.length c9)
              have hI := Kd.R_far HI.out (p := ⟨gx, 1, none⟩) (fun _ h => h.2.1) (.slice A9 l.length c9)
              clear HX HKb HRd HA HI x0 x1 x2 xf1
              have HX := HX2
              have HKb := Aside0.mk hk
              have HRd := Aside0.mk hR
              have HA := Aside0.mk hA
              have HI := Aside0.mk hI
              clear HX2 hk hR hA hI
              generalize w4.setCell ⟨gx, 1, none⟩ (.slice A9 l.length c9) = w5 at HX HKb HRd HA HI ⊢
              refine (need_calls ⟨#[41]⟩ HT.out HRd.out).mono ?_
              rintro e w6 ⟨hk, ⟨hw, rfl, hR⟩ | ⟨hw, rfl⟩⟩
              · replace hw : wd t = [41] := hw
                have HP := Aside0.mk (HQ4.out l t rfl HL9.out hw)
                clear hw HQ1 HQ2 HQ3 HQ4 HL9 hl0 hl1 hl2
                replace HX := Aside0.mk (hk.kb.blk HX.out HGX.out.2 (by simp))
                replace HA := Aside0.mk (Kd.R_keep HA.out hk.kb (fun _ h => h.1))
                replace HRd := Aside0.mk hR
                replace HKb := Aside0.mk (HKb.out.trans hk)
                replace HI := Aside0.mk (Kd.R_keep HI.out hk.kb (fun _ h => h.1))
                clear hR hk
                generalize t.tail = tb at HRd HP
                obtain ⟨a, n_, V, hRa, hAt⟩ := id HRd.out
                have z3 := hRa.z3
                have hVw : wd tb = V.data.toList := hAt.word.symm
                clear hRa hAt
                by_cases hw : wd tb = [42]
                · have e2 : V.toList = [42] := by rw [Go.ByteArray.toList_eq, ← hVw]; exact hw
                  have e1 : (V.toList == [42]) = true := by rw [e2]; rfl
                  clear hVw
                  have x0 : w6.cell? ⟨gx, 0, none⟩ = some (.int .i64 0) := (blk_cell HX.out 0).trans rfl
                  have x1 : w6.cell? ⟨gx, 1, none⟩ = some (.slice A9 l.length c9) := (blk_cell HX.out 1).trans rfl
                  have x2 : w6.cell? ⟨gx, 2, none⟩ = some (.int .i64 1) := (blk_cell HX.out 2).trans rfl
                  go_wp2_with fail
                  refine (next_calls HT.out HRd.out).mono ?_
                  rintro e wb1 ⟨rfl, hR, hk⟩
                  clear z3 e1 e2 x0 x1 x2
                  replace HX := Aside0.mk (hk.kb.blk HX.out HGX.out.2 (by simp))
                  replace HA := Aside0.mk (Kd.R_keep HA.out hk.kb (fun _ h => h.1))
                  replace HRd := Aside0.mk hR
                  replace HKb := Aside0.mk (HKb.out.trans hk)
                  replace HI := Aside0.mk (Kd.R_keep HI.out hk.kb (fun _ h => h.1))
                  clear hR hk
                  go_wp2_with fail
                  refine (number_calls HT.out (HPow.out.below (HKb.out.below HBG.out.1 HBG.out.2)) HRd.out).mono ?_
                  rintro e wb2 ⟨hb, v2, ok2, rfl, hn2⟩
                  have hk := Kb.of_below hb (gr := gr) (Nat.le_of_lt (HKb.out.lt HSz.out))
                  have hR := HRd.out.keep hb
                  replace HX := Aside0.mk (hk.kb.blk HX.out HGX.out.2 (by simp))
                  replace HA := Aside0.mk (Kd.R_keep HA.out hk.kb (fun _ h => h.1))
                  replace HRd := Aside0.mk hR
                  replace HKb := Aside0.mk (HKb.out.trans hk)
                  replace HI := Aside0.mk (Kd.R_keep HI.out hk.kb (fun _ h => h.1))
                  clear hR hk
                  clear hb
                  rcases hn2 with ⟨rfl, hn2⟩ | ⟨rfl, hn2⟩
                  · by_cases hv1 : v2 < 1
                    · have d1 : decide (v2 < 1) = true := decide_eq_true hv1
                      have hend : LEnd T gr w.heap.size wb2 (thrown (ps T.size tb.tail)) (ahead acc r1) := by
                        have h := pRest_bad (E := T.size) (k := k1) (o := o) (x := (⟨0, l, 1⟩ : S78)) hw (fun v hv => by rw [hn2] at hv; injection hv with hv; omega)
                        rw [HP.out] at h
                        injection h with h
                        rw [h]
                        rfl
                      clear hn2 hw
                      go_wp2_with fail
                      refine (fail_calls HRd.out).mono ?_
                      rintro e wb3 ⟨rfl, rfl⟩
                      unfold thrown
                      go_wp2
                      exact ⟨rfl, HKb.out, by rw [← HEnd.out]; exact hend⟩
                    · have d1 : decide (v2 < 1) = false := decide_eq_false hv1
                      have d4 : 1 ≤ v2 := by omega
                      by_cases hv2 : v2 > 1048576
                      · have d2 : decide (v2 > 1048576) = true := decide_eq_true hv2
                        have d3 : 1048576 < v2 := hv2
                        have hend : LEnd T gr w.heap.size wb2 (thrown (ps T.size tb.tail)) (ahead acc r1) := by
                          have h := pRest_bad (E := T.size) (k := k1) (o := o) (x := (⟨0, l, 1⟩ : S78)) hw (fun v hv => by rw [hn2] at hv; injection hv with hv; omega)
                          rw [HP.out] at h
                          injection h with h
                          rw [h]
                          rfl
                        clear hn2 hw
                        go_wp2_with fail
                        refine (fail_calls HRd.out).mono ?_
                        rintro e wb3 ⟨rfl, rfl⟩
                        unfold thrown
                        go_wp2
                        exact ⟨rfl, HKb.out, by rw [← HEnd.out]; exact hend⟩
                      · have d2 : decide (v2 > 1048576) = false := decide_eq_false hv2
                        have d3 : v2 ≤ 1048576 := by omega
                        obtain ⟨q2, hq2, hr2⟩ := pGo_some ((pRest_count (E := T.size) (k := k1) (o := o) (x := (⟨0, l, 1⟩ : S78)) hw hn2 ⟨by omega, by omega⟩).symm.trans HP.out)
                        have HQ2 := Aside0.mk hq2
                        have HR2 := Aside0.mk hr2
                        clear hq2 hr2 hn2 hw
                        have x0 : wb2.cell? ⟨gx, 0, none⟩ = some (.int .i64 0) := (blk_cell HX.out 0).trans rfl
                        have x1 : wb2.cell? ⟨gx, 1, none⟩ = some (.slice A9 l.length c9) := (blk_cell HX.out 1).trans rfl
                        have x2 : wb2.cell? ⟨gx, 2, none⟩ = some (.int .i64 1) := (blk_cell HX.out 2).trans rfl
                        have xf2 := blk_frozen HX.out 2
                        go_wp2_with fail
                        have HX2 := Aside0.mk (show (wb2.setCell ⟨gx, 2, none⟩ (.int .i64 v2)).heap[gx]? = some (.cells #[.int .i64 0, .slice A9 l.length c9, .int .i64 v2] 78 (0, 0)) from blk_put (cs := #[.int .i64 0, .slice A9 l.length c9, .int .i64 1]) HX.out 2 _ rfl)
                        have hk := HKb.out.box HSz.out HGX.out.1 2 (.int .i64 v2)
                        have hR := HRd.out.far HGX.out.2 2 (.int .i64 v2)
                        have hA := Kd.R_far HA.out (p := ⟨gx, 2, none⟩) (fun _ h => h.2) (.int .i64 v2)
                        have hI := Kd.R_far HI.out (p := ⟨gx, 2, none⟩) (fun _ h => h.2.1) (.int .i64 v2)
                        replace HX := HX2
                        replace HKb := Aside0.mk hk
                        replace HRd := Aside0.mk hR
                        replace HA := Aside0.mk hA
                        replace HI := Aside0.mk hI
                        clear HX2 hk hR hA hI x0 x1 x2 xf2
                        generalize wb2.setCell ⟨gx, 2, none⟩ (.int .i64 v2) = wb4 at HX HKb HRd HA HI ⊢
                        refine (next_calls HT.out HRd.out).mono ?_
                        rintro e wb5 ⟨rfl, hR, hk⟩
                        replace HX := Aside0.mk (hk.kb.blk HX.out HGX.out.2 (by simp))
                        replace HA := Aside0.mk (Kd.R_keep HA.out hk.kb (fun _ h => h.1))
                        replace HRd := Aside0.mk hR
                        replace HKb := Aside0.mk (HKb.out.trans hk)
                        replace HI := Aside0.mk (Kd.R_keep HI.out hk.kb (fun _ h => h.1))
                        clear hR hk
                        have x0 : wb5.cell? ⟨gx, 0, none⟩ = some (.int .i64 0) := (blk_cell HX.out 0).trans rfl
                        have x1 : wb5.cell? ⟨gx, 1, none⟩ = some (.slice A9 l.length c9) := (blk_cell HX.out 1).trans rfl
                        have x2 : wb5.cell? ⟨gx, 2, none⟩ = some (.int .i64 v2) := (blk_cell HX.out 2).trans rfl
                        go_wp2_with (first | ((with_reducible refine gate_builtin (b := .append) (xs := #[.tmp 75, .tmp 77]) rfl ?_); at_builtin; refine Kd.R_append k78 (w0 := wb5) w.heap.size rfl (.tmp 75) (.tmp 77) 58 78 (.agg #[.int .i64 0, .slice none 0 0, .int .i64 0]) 40 rfl Tryd.underlying58 info78 rfl (by decide) (by omega) (.slice A5 acc.length c5) acc ⟨(⟨0, l, 1⟩ : S78).f0, (⟨0, l, 1⟩ : S78).f1, v2⟩ [.int .i64 0, .slice A9 l.length c9, .int .i64 v2] (fun k_ => k_ ≠ gr ∧ k_ ≠ gx) (fun k_ => k_ ≠ gr ∧ k_ ≠ gx ∧ some k_ ≠ (Value.slice A5 acc.length c5).ownBlock) rfl rfl ?aP ?aK ?aF ?aO ?aB ?aS ?aL ?_; (case aP => exact k78_mkM _ _ _ ⟨(⟨0, l, 1⟩ : S78).f0, (⟨0, l, 1⟩ : S78).f1, v2⟩ HI.out); (case aK => exact fun _ h => ⟨⟨h.1, h.2.1⟩, h.2.2⟩); (case aB => exact Below.refl _ _); (case aF => exact fun k_ hk_ => HKb.out.new HSz.out HX.out hk_); (case aO => exact HA.out); (case aS => exact HKb.out.sz); (case aL => (have h1_ := HLen.out; have h2_ := HKq.out; omega)); intro v8 w8 ho hb hg hat; have HO8 := Aside0.mk ho; have HK8 := Aside0.mk (HKb.out.grown HA.out hb hg HSz.out); have HR8 := Aside0.mk (HRd.out.grown HA.out hg HSz.out); obtain ⟨A8, c8, rfl, _, _⟩ := Kd.R_reads ho; clear ho hb hg hat))
                        go_roundg k1
                        case measure => have := HKq.out; omega
                        case rel => exact ⟨acc ++ [⟨(⟨0, l, 1⟩ : S78).f0, (⟨0, l, 1⟩ : S78).f1, v2⟩], _, _, HQ2, ⟨by have h_ := Kd.R_mono (ok' := fun k_ => k_ ≠ gr) HO8.out (fun _ h => h.1); rw [List.length_append, List.length_singleton] at h_; exact h_⟩, HR8, HK8, ⟨by have := HKq.out; omega⟩, ⟨by have := HLen.out; simp; omega⟩, ⟨by rw [← ahead_ahead, ← HR2.out]; exact HEnd.out⟩⟩
                  · have hend : LEnd T gr w.heap.size wb2 (thrown (ps T.size tb.tail)) (ahead acc r1) := by
                      have h := pRest_bad (E := T.size) (k := k1) (o := o) (x := (⟨0, l, 1⟩ : S78)) hw (fun v hv => by rw [hn2] at hv; cases hv)
                      rw [HP.out] at h
                      injection h with h
                      rw [h]
                      rfl
                    clear hn2 hw
                    go_wp2_with fail
                    refine (fail_calls HRd.out).mono ?_
                    rintro e wb3 ⟨rfl, rfl⟩
                    unfold thrown
                    go_wp2
                    exact ⟨rfl, HKb.out, by rw [← HEnd.out]; exact hend⟩
                · have e2 : ¬ V.toList = [42] := by rw [Go.ByteArray.toList_eq, ← hVw]; exact hw
                  have e1 : (V.toList == [42]) = false := beq_eq_false_iff_ne.mpr e2
                  clear hVw
                  obtain ⟨q2, hq2, hr2⟩ := pGo_some ((pRest_one (E := T.size) (k := k1) (o := o) (x := (⟨0, l, 1⟩ : S78)) hw).symm.trans HP.out)
                  have HQ2 := Aside0.mk hq2
                  have HR2 := Aside0.mk hr2
                  clear hq2 hr2 hw
                  have x0 : w6.cell? ⟨gx, 0, none⟩ = some (.int .i64 0) := (blk_cell HX.out 0).trans rfl
                  have x1 : w6.cell? ⟨gx, 1, none⟩ = some (.slice A9 l.length c9) := (blk_cell HX.out 1).trans rfl
                  have x2 : w6.cell? ⟨gx, 2, none⟩ = some (.int .i64 1) := (blk_cell HX.out 2).trans rfl
                  go_wp2_with (first | ((with_reducible refine gate_builtin (b := .append) (xs := #[.tmp 75, .tmp 77]) rfl ?_); at_builtin; refine Kd.R_append k78 (w0 := w6) w.heap.size rfl (.tmp 75) (.tmp 77) 58 78 (.agg #[.int .i64 0, .slice none 0 0, .int .i64 0]) 40 rfl Tryd.underlying58 info78 rfl (by decide) (by omega) (.slice A5 acc.length c5) acc (⟨0, l, 1⟩ : S78) [.int .i64 0, .slice A9 l.length c9, .int .i64 1] (fun k_ => k_ ≠ gr ∧ k_ ≠ gx) (fun k_ => k_ ≠ gr ∧ k_ ≠ gx ∧ some k_ ≠ (Value.slice A5 acc.length c5).ownBlock) rfl rfl ?aP ?aK ?aF ?aO ?aB ?aS ?aL ?_; (case aP => exact k78_mkM _ _ _ (⟨0, l, 1⟩ : S78) HI.out); (case aK => exact fun _ h => ⟨⟨h.1, h.2.1⟩, h.2.2⟩); (case aB => exact Below.refl _ _); (case aF => exact fun k_ hk_ => HKb.out.new HSz.out HX.out hk_); (case aO => exact HA.out); (case aS => exact HKb.out.sz); (case aL => (have h1_ := HLen.out; have h2_ := HKq.out; omega)); intro v8 w8 ho hb hg hat; have HO8 := Aside0.mk ho; have HK8 := Aside0.mk (HKb.out.grown HA.out hb hg HSz.out); have HR8 := Aside0.mk (HRd.out.grown HA.out hg HSz.out); obtain ⟨A8, c8, rfl, _, _⟩ := Kd.R_reads ho; clear ho hb hg hat))
                  go_roundg k1
                  case measure => have := HKq.out; omega
                  case rel => exact ⟨acc ++ [(⟨0, l, 1⟩ : S78)], _, _, HQ2, ⟨by have h_ := Kd.R_mono (ok' := fun k_ => k_ ≠ gr) HO8.out (fun _ h => h.1); rw [List.length_append, List.length_singleton] at h_; exact h_⟩, HR8, HK8, ⟨by have := HKq.out; omega⟩, ⟨by have := HLen.out; simp; omega⟩, ⟨by rw [← ahead_ahead, ← HR2.out]; exact HEnd.out⟩⟩
              · have hend2 := HQ3.out l t rfl HL9.out hw
                replace HKb := Aside0.mk (HKb.out.trans hk)
                clear hk hw
                unfold thrown
                go_wp2
                exact ⟨rfl, HKb.out, by rw [← HEnd.out, hend2]; rfl⟩
        · have hr1 := (pL_end (E := T.size) (k := k1) hn hc).symm.trans HP.out
          injection hr1 with hr1
          have HR1 := Aside0.mk hr1
          by_cases hw : wd ts = [40]
          · have e2 : V.toList = [40] := by rw [Go.ByteArray.toList_eq, ← hVw]; exact hw
            have e1 : (V.toList == [40]) = true := by rw [e2]; rfl
            have d1 : decide ((o : Int) < 8) = false := decide_eq_false (fun h => hc ⟨hw, by omega⟩)
            have d2 : ¬ (o : Int) < 8 := fun h => hc ⟨hw, by omega⟩
            clear hVw hc hn hr1 hw
            go_wp2
            go_ret
            exact ⟨HKb.out, by rw [← HEnd.out, ← HR1.out]; exact ⟨_, rfl, by rw [List.append_nil]; exact Kd.R_mono HA.out (fun _ h => h.1), HRd.out⟩⟩
          · have e2 : ¬ V.toList = [40] := by rw [Go.ByteArray.toList_eq, ← hVw]; exact hw
            have e1 : (V.toList == [40]) = false := beq_eq_false_iff_ne.mpr e2
            clear hVw hc hn hr1 hw
            go_wp2
            go_ret
            exact ⟨HKb.out, by rw [← HEnd.out, ← HR1.out]; exact ⟨_, rfl, by rw [List.append_nil]; exact Kd.R_mono HA.out (fun _ h => h.1), HRd.out⟩⟩
end Go.Proofs.YtjlbimnafbngaaaDoor.Dec
