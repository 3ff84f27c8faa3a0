/- script.writeList: a contract: what it writes into the builder. -/
import Derived.Test.YtjlbimnafbngaaaDoorEncPure
import Derived.Test.YtjlbimnafbngaaaDoorBuild
import Derived.Test.YtjlbimnafbngaaaDoorPScriptEncodex0
import Derived.Test.YtjlbimnafbngaaaDoorFmtPure
namespace Go.Proofs.YtjlbimnafbngaaaDoor.Enc
open Go.RowKit Go.Proofs.YtjlbimnafbngaaaDoorW.PrintWords Go.Proofs.YtjlbimnafbngaaaDoor.BitMath Go.Proofs.YtjlbimnafbngaaaDoor.Fmt
set_option linter.unusedVariables false
theorem builder_below {B b : Nat} {bs : List Value} {w w' : World} (h : Lib.IsBuilder 42 5 B b bs w) (hb : Below w.heap.size w w') : Lib.IsBuilder 42 5 B b bs w' := by
  have key : ∀ p, Lib.BuilderAt 42 5 B b p bs w → Lib.BuilderAt 42 5 B b p bs w' := fun p ⟨h1, v, h2, h3, h4⟩ => ⟨h1, v, by rw [hb.block b (Array.getElem?_eq_some_iff.1 h2).1]; exact h2, pw_own_below h3 hb, h4⟩
  rcases h with h | h
  · exact .inl (key _ h)
  · exact .inr (key _ h)
theorem write_calls (B b : Nat) (cur : List UInt8) (s : ByteArray) (w : World) (hI : Lib.IsBuilder 42 5 B b (Lib.byteCells cur) w) (hlen : cur.length + s.size ≤ 140737488355328) (hBw : B ≤ w.heap.size) :
    Calls Tryd.prog 15 #[.pointer (some ⟨b, 0, none⟩), .string s] w fun e w' => e = .returned (.tuple #[.int .i64 s.size, .nilIface]) ∧ Lib.IsBuilder 42 5 B b (Lib.byteCells (cur ++ s.data.toList)) w' ∧ Below B w w' := by
  refine (Build.writeString B b _ s w hI (by rw [Lib.byteCells_length]; exact hlen) hBw).mono ?_
  rintro e w' ⟨rfl, h1, h2⟩
  refine ⟨rfl, .inr ?_, h2⟩
  have : Lib.byteCells (cur ++ s.data.toList) = Lib.byteCells cur ++ Lib.strCells s := by
    simp [Lib.byteCells, Lib.strCells]
  rw [this]
  exact h1
set_option maxHeartbeats 4000000 in
set_option maxRecDepth 100000 in
theorem writeList_calls (B b : Nat) (cur0 : List UInt8) (A : Option Addr) (c : Nat) (l : List Int) (w : World) (hI : Lib.IsBuilder 42 5 B b (Lib.byteCells cur0) w) (hBw : B ≤ w.heap.size) (hcur : cur0.length ≤ 100000) (hr : ∀ W', Below B w W' → Kd.C (Kd.int .i64) W' A l.length l) (hT : ∀ W', Below B w W' → PowAt W') (hw : ∀ x, x ∈ l → In64 x) (hm : l.length ≤ 1048576) :
    Calls Tryd.prog 16 #[.pointer (some ⟨b, 0, none⟩), .slice A l.length c] w fun e w' => e = .returned (.tuple #[]) ∧ Lib.IsBuilder 42 5 B b (Lib.byteCells (toldL l.length cur0 l)) w' ∧ Below B w w' := by
  generalize hR : toldL l.length cur0 l = R
  have HR := Aside0.mk hr
  have HT := Aside0.mk hT
  have HI := Aside0.mk hI
  have HE := Aside0.mk (show toldL (l.length - 0) cur0 (l.drop 0) = R from hR)
  have HW := Aside0.mk hw
  have HC := Aside0.mk hcur
  have HB := Aside0.mk (Below.refl B w)
  clear hr hT hI hR hw hcur
  go_enter Tryd.func16, Tryd.ntmps16
  go_wp2
  go_loopw [4] (fun v4 w' => ∃ (i : Nat) (cur : List UInt8), i ≤ l.length ∧ v4 = .int .i64 i ∧ Aside0 (toldL (l.length - i) cur (l.drop i) = R) ∧ Aside0 (cur.length ≤ 100000) ∧ Aside0 (Lib.IsBuilder 42 5 B b (Lib.byteCells cur) w') ∧ Aside0 (Below B w w')) (fun v _ => l.length - (intOf v).toNat)
  case atStart => exact ⟨0, cur0, Nat.zero_le _, rfl, HE, HC, HI, HB⟩
  case round =>
    clear HE HC HI HB
    obtain ⟨i, cur, hi, rfl, HE, HC, HI, HB⟩ := hrel
    by_cases hlt : i < l.length
    · have p1 : (0 : Int) ≤ (i : Int) := by omega
      have q1 : (i : Int) < (l.length : Int) := by omega
      go_wp2_with fail
      refine (Tryd.Builder_Len B b _ _ HI.out).mono ?_
      rintro e w1 ⟨rfl, rfl⟩
      rw [Lib.byteCells_length]
      by_cases hcap : cur.length ≤ 65536
      · have hcapI : (cur.length : Int) ≤ 65536 := by omega
        have hr : same (rd l i) (l.drop (i + 1)) ≤ l.length - (i + 1) := by
          have := same_le (rd l i) (l.drop (i + 1))
          rwa [List.length_drop] at this
        generalize hsr : same (rd l i) (l.drop (i + 1)) = r at hr
        go_upto_block 2 with (fail)
        repeat (go_quiet (fail); go_upto_block 2 with (fail))
        go_cut [5] (fun v5 wc => v5 = .int .i64 ((i + 1 + r : Nat) : Int) ∧ Aside0 (Lib.IsBuilder 42 5 B b (Lib.byteCells cur) wc) ∧ Aside0 (Below B w wc))
        case first =>
          go_wp2
          repeat (go_quiet (fail); try go_wp2)
          go_loopw [5] (fun v5 w' => ∃ j : Nat, j ≤ r ∧ v5 = .int .i64 ((i + 1 + j : Nat) : Int) ∧ Aside0 (Lib.IsBuilder 42 5 B b (Lib.byteCells cur) w') ∧ Aside0 (Below B w w')) (fun v _ => i + 1 + r - (intOf v).toNat)
          case atStart => exact ⟨0, Nat.zero_le _, by simp, HI, HB⟩
          case round =>
            clear HI HB
            obtain ⟨j, hj, rfl, HI, HB⟩ := hrel
            generalize hkk : i + 1 + j = kk
            by_cases hk : kk < l.length
            · have p2 : (0 : Int) ≤ (kk : Int) := by omega
              have q2 : (kk : Int) < (l.length : Int) := by omega
              obtain ⟨ad, e1, x1⟩ := Kd.at_int (HR.out _ HB.out) (kk : Int) p2 q2
              cases e1
              obtain ⟨ad2, e2, x2⟩ := Kd.at_int (HR.out _ HB.out) (i : Int) p1 q1
              obtain rfl : ad = ad2 := (by injection e2)
              rw [Int.toNat_natCast] at x1 x2
              have P2 := eq_true p2
              have Q2 := eq_true q2
              have P1 := eq_true p1
              have Q1 := eq_true q1
              have hget : (l.drop (i + 1))[j]? = some (rd l (kk : Int)) := by
                rw [List.getElem?_drop, hkk, List.getElem?_eq_getElem hk]
                simp [rd, List.getD_eq_getElem?_getD, hk]
              by_cases hjr : j < r
              · have hv : (rd l (kk : Int) == rd l (i : Int)) = true := by
                  have := same_at _ _ j (by rw [hsr]; exact hjr)
                  rw [hget] at this
                  rw [Option.some.inj this]
                  exact beq_self_eq_true _
                have HX := Aside0.mk hget
                have HV := Aside0.mk hsr
                clear hget hsr e2
                generalize rd l (kk : Int) = y1 at *
                generalize rd l (i : Int) = y2 at *
                go_wp2
                repeat (go_quiet (fail); try go_wp2)
                go_roundw
                case measure => simp [intOf]; omega
                case rel => exact ⟨j + 1, by omega, by go_num, HI, ⟨pw_below_drewN HB.out _⟩⟩
              · have hv : (rd l (kk : Int) == rd l (i : Int)) = false := by
                  obtain rfl : j = r := by omega
                  rw [beq_eq_false_iff_ne]
                  exact same_end _ _ _ (by rw [hsr]; exact hget)
                have HX := Aside0.mk hget
                have HV := Aside0.mk hsr
                clear hget hsr e2
                generalize rd l (kk : Int) = y1 at *
                generalize rd l (i : Int) = y2 at *
                go_wp2
                repeat (go_quiet (fail); try go_wp2)
                go_meet
                case rel => exact ⟨by rw [← hkk]; congr 2; omega, HI, ⟨pw_below_drewN HB.out _⟩⟩
            · go_wp2
              repeat (go_quiet (fail); try go_wp2)
              go_meet
              case rel => exact ⟨by rw [← hkk]; congr 2; omega, HI, ⟨pw_below_drewN HB.out _⟩⟩
        case rest =>
          obtain ⟨rfl, HI, HB⟩ := hcut
          have HL := Aside0.mk (show cur.length + 1 ≤ 65537 by omega)
          have HIn := Aside0.mk (HW.out (rd l (i : Int)) (by
            have : l[i]? = some (rd l (i : Int)) := by rw [List.getElem?_eq_getElem hlt]; simp [rd, List.getD_eq_getElem?_getD, hlt]
            exact List.mem_of_getElem? this))
          have HS := Aside0.mk hsr
          clear hsr
          generalize hx : rd l (i : Int) = x at *
          go_wp2_with fail
          refine (write_calls B b cur _ _ HI.out (by have := HL.out; simp [ByteArray.size]; omega) (Nat.le_trans hBw HB.out.size)).mono ?_
          rintro e w2 ⟨rfl, hI2, hb2⟩
          have HI2 := Aside0.mk hI2
          have HB2 := Aside0.mk (HB.out.trans hb2)
          clear hI2 hb2 HI HB
          obtain ⟨ad, e1, x1⟩ := Kd.at_int (HR.out _ HB2.out) (i : Int) p1 q1
          cases e1
          rw [Int.toNat_natCast, hx] at x1
          go_wp2_with fail
          refine (format_calls x HIn.out _ (HT.out _ HB2.out)).mono ?_
          rintro e w3 ⟨rfl, hb3⟩
          have HB3 := Aside0.mk (HB2.out.trans (hb3.mono (Nat.le_trans hBw HB2.out.size)))
          have HI3 := Aside0.mk (builder_below HI2.out hb3)
          have HF := Aside0.mk (FmtPure.itoa_len x HIn.out)
          clear hb3 HI2 HB2
          generalize hf : Lib.itoa x = f at *
          have HFe := Aside0.mk hf
          clear hf
          go_wp2_with fail
          refine (write_calls B b _ _ _ HI3.out (by have := HL.out; have := HF.out; simp [ByteArray.size]; omega) (Nat.le_trans hBw HB3.out.size)).mono ?_
          rintro e w4 ⟨rfl, hI4, hb4⟩
          have HI4 := Aside0.mk hI4
          have HB4 := Aside0.mk (HB3.out.trans hb4)
          clear hI4 hb4 HI3 HB3
          have HD := Aside0.mk (show l.drop i = x :: l.drop (i + 1) by
            rw [List.drop_eq_getElem_cons hlt, ← hx]
            simp [rd, List.getD_eq_getElem?_getD, hlt])
          have HC2 := Aside0.mk hcap
          clear hcapI
          by_cases hr0 : r = 0
          · subst hr0
            have HN := Aside0.mk (show toldL (l.length - (i + 1)) (cur ++ [32] ++ f) (l.drop (i + 1)) = R by
              have := toldL_step l i cur x _ HD.out HC2.out
              rw [HS.out, HE.out, piece, if_pos rfl, HFe.out, Nat.add_zero] at this
              rw [this]
              simp)
            have HM := Aside0.mk (show (cur ++ [32] ++ f).length ≤ 100000 by have := HL.out; have := HF.out; simp; omega)
            clear HE HC hcap
            go_wp2
            go_roundw
            case measure => simp [intOf]; omega
            case rel => exact ⟨i + 1, _, by omega, by go_num, HN, HM, HI4, HB4⟩
          · have hrI : (i : Int) + 1 < (i : Int) + 1 + (r : Int) := by omega
            have HN := Aside0.mk (show toldL (l.length - (i + 1 + r)) (cur ++ [32] ++ f ++ [42] ++ Lib.itoa ((r : Int) + 1)) (l.drop (i + 1 + r)) = R by
              have := toldL_step l i cur x _ HD.out HC2.out
              rw [HS.out, HE.out, piece, if_neg hr0, HFe.out, show ((r + 1 : Nat) : Int) = (r : Int) + 1 by omega] at this
              rw [this]
              simp)
            have HL2 := Aside0.mk (show cur.length + f.length ≤ 70000 by have := HL.out; have := HF.out; omega)
            have HR1 := Aside0.mk (show In64 ((r : Int) + 1) by unfold In64; omega)
            clear HE HC hcap
            go_wp2_with fail
            refine (write_calls B b _ _ _ HI4.out (by have := HL2.out; simp [ByteArray.size]; omega) (Nat.le_trans hBw HB4.out.size)).mono ?_
            rintro e w5 ⟨rfl, hI5, hb5⟩
            have HI5 := Aside0.mk hI5
            have HB5 := Aside0.mk (HB4.out.trans hb5)
            clear hI5 hb5 HI4 HB4
            go_wp2_with fail
            rw [show (i : Int) + 1 + (r : Int) - (i : Int) = (r : Int) + 1 by omega]
            refine (format_calls _ HR1.out _ (HT.out _ HB5.out)).mono ?_
            rintro e w6 ⟨rfl, hb6⟩
            have HB6 := Aside0.mk (HB5.out.trans (hb6.mono (Nat.le_trans hBw HB5.out.size)))
            have HI6 := Aside0.mk (builder_below HI5.out hb6)
            have HG := Aside0.mk (FmtPure.itoa_len _ HR1.out)
            clear hb6 HI5 HB5
            generalize Lib.itoa ((r : Int) + 1) = g at *
            go_wp2_with fail
            refine (write_calls B b _ _ _ HI6.out (by have := HL2.out; have := HG.out; simp [ByteArray.size]; omega) (Nat.le_trans hBw HB6.out.size)).mono ?_
            rintro e w7 ⟨rfl, hI7, hb7⟩
            have HI7 := Aside0.mk hI7
            have HB7 := Aside0.mk (HB6.out.trans hb7)
            clear hI7 hb7 HI6 HB6
            have HM := Aside0.mk (show (cur ++ [32] ++ f ++ [42] ++ g).length ≤ 100000 by have := HL2.out; have := HG.out; simp; omega)
            go_wp2
            go_roundw
            case measure => simp [intOf]; omega
            case rel => exact ⟨i + 1 + r, _, by omega, by go_num, HN, HM, HI7, HB7⟩
      · go_wp2
        go_end0
        have he := HE.out
        rw [toldL_stop l i cur (.inr (by omega))] at he
        exact ⟨rfl, he ▸ HI.out, HB.out⟩
    · go_wp2
      go_end0
      have he := HE.out
      rw [toldL_stop l i cur (.inl (by omega))] at he
      exact ⟨rfl, he ▸ HI.out, HB.out⟩
end Go.Proofs.YtjlbimnafbngaaaDoor.Enc
