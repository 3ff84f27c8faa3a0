/- The document's own text of a list (plunderref10.told): a contract. -/
import Derived.Test.YtjlbimnafbngaaaDoorEncWalk
import Derived.Test.YtjlbimnafbngaaaDoorPScriptEncodex2
namespace Go.Proofs.YtjlbimnafbngaaaDoor.Enc
open Go.RowKit Go.Proofs.YtjlbimnafbngaaaDoorW.PrintWords Go.Proofs.YtjlbimnafbngaaaDoor.BitMath Go.Proofs.YtjlbimnafbngaaaDoor.PScriptEncode Go.Proofs.YtjlbimnafbngaaaDoorW.PrintLast Go.Proofs.YtjlbimnafbngaaaDoorW.PrintMore
set_option linter.unusedVariables false
theorem rfmt_calls (v : Int) (hv : In64 v) (w : World) :
    Calls Tryd.prog 32 #[.int .i64 v] w fun e w' => e = .returned (.string ⟨(Lib.itoa v).toArray⟩) ∧ Below w.heap.size w w' :=
  plunderref1_Format.calls 20 v _ w (FmtPure.format_f v hv 20 (Nat.le_refl _))
/-- A row of bytes of the call's own. -/
def Own (B : Nat) (v : Value) (cur : List UInt8) (w : World) : Prop := w.ownsRow B 5 1 v (Lib.byteCells cur).length (Lib.byteCells cur)
theorem Own.slice {B : Nat} {v : Value} {cur : List UInt8} {w : World} (h : Own B v cur w) : ∃ A c, v = .slice A cur.length c := by
  unfold Own at h
  rw [Lib.byteCells_length] at h
  rcases h.2 with ⟨hv, h0⟩ | ⟨g, cap, cs, hv, _⟩
  · exact ⟨none, 0, by rw [hv, h0]⟩
  · exact ⟨_, _, hv⟩
theorem Own.below {B : Nat} {v : Value} {cur : List UInt8} {w w' : World} (h : Own B v cur w) (hb : Below w.heap.size w w') : Own B v cur w' := pw_own_below h hb
theorem Own.snoc {B : Nat} {v : Value} {cur : List UInt8} {w : World} {n : Int} (x : UInt8) (hn : n = x.toNat) (h : w.ownsRow B 5 1 v ((Lib.byteCells cur).length + 1) (Lib.byteCells cur ++ [Value.int .u8 n])) : Own B v (cur ++ [x]) w := by
  subst hn
  unfold Own
  rw [Lib.byteCells_append, List.length_append]
  exact h
theorem Own.str {B : Nat} {v : Value} {cur s : List UInt8} {w : World} (h : w.ownsRow B 5 1 v ((Lib.byteCells cur).length + (⟨s.toArray⟩ : ByteArray).size) (Lib.byteCells cur ++ Lib.strCells ⟨s.toArray⟩)) : Own B v (cur ++ s) w := by
  unfold Own
  rw [Lib.byteCells_append, List.length_append]
  have : (Lib.byteCells s).length = (⟨s.toArray⟩ : ByteArray).size := by rw [Lib.byteCells_length]; rfl
  rw [this]
  exact h
theorem Own.nil (B : Nat) (w : World) : Own B (.slice none 0 0) [] w := ⟨rfl, .inl ⟨rfl, rfl⟩⟩
set_option maxHeartbeats 4000000 in
set_option maxRecDepth 100000 in
theorem told_calls (B : Nat) (v0 : Value) (cur0 : List UInt8) (A : Option Addr) (c : Nat) (l : List Int) (w : World) (hO : Own B v0 cur0 w) (hBw : B ≤ w.heap.size) (hcur : cur0.length ≤ 100000) (hr : ∀ W', Below B w W' → Kd.C (Kd.int .i64) W' A l.length l) (hw : ∀ x, x ∈ l → In64 x) (hm : l.length ≤ 1048576) :
    Calls Tryd.prog 19 #[v0, .slice A l.length c] w fun e w' => ∃ v1, e = .returned v1 ∧ Own B v1 (toldL l.length cur0 l) w' ∧ Below B w w' := by
  generalize hR : toldL l.length cur0 l = R
  have HR := Aside0.mk hr
  have HO := Aside0.mk hO
  have HE := Aside0.mk (show toldL (l.length - 0) cur0 (l.drop 0) = R from hR)
  have HW := Aside0.mk hw
  have HC := Aside0.mk hcur
  have HB := Aside0.mk (Below.refl B w)
  obtain ⟨i0, hi0, hzz⟩ := Option.map_eq_some_iff.1 info5
  simp only [Prod.mk.injEq] at hzz
  obtain ⟨hz0, hz1, hz2⟩ := hzz
  clear hr hO hR hw hcur
  go_enter Tryd.func19, Tryd.ntmps19
  go_wp2
  repeat (go_quiet (fail); try go_wp2)
  go_loopw [0, 5] (fun v0 v5 w' => ∃ (i : Nat) (cur : List UInt8), i ≤ l.length ∧ v5 = .int .i64 i ∧ Aside0 (toldL (l.length - i) cur (l.drop i) = R) ∧ Aside0 (cur.length ≤ 100000) ∧ Aside0 (Own B v0 cur w') ∧ Aside0 (Below B w w')) (fun _ v _ => l.length - (intOf v).toNat)
  case atStart => exact ⟨0, cur0, Nat.zero_le _, rfl, HE, HC, HO, HB⟩
  case round =>
    clear HE HC HO HB
    obtain ⟨i, cur, hi, rfl, HE, HC, HO, HB⟩ := hrel
    obtain ⟨Ao, co, rfl⟩ := HO.out.slice
    by_cases hlt : i < l.length
    · have p1 : (0 : Int) ≤ (i : Int) := by omega
      have q1 : (i : Int) < (l.length : Int) := by omega
      by_cases hcap : cur.length ≤ 65536
      · have hcapI : (cur.length : Int) ≤ 65536 := by omega
        have hr : same (rd l i) (l.drop (i + 1)) ≤ l.length - (i + 1) := by
          have := same_le (rd l i) (l.drop (i + 1))
          rwa [List.length_drop] at this
        generalize hsr : same (rd l i) (l.drop (i + 1)) = r at hr
        go_upto_block 2 with (fail)
        repeat (go_quiet (fail); go_upto_block 2 with (fail))
        go_cut [6] (fun v6 wc => v6 = .int .i64 ((1 + r : Nat) : Int) ∧ Aside0 (Own B (.slice Ao cur.length co) cur wc) ∧ Aside0 (Below B w wc))
        case first =>
          go_wp2
          repeat (go_quiet (fail); try go_wp2)
          go_loopw [6] (fun v6 w' => ∃ j : Nat, j ≤ r ∧ v6 = .int .i64 ((1 + j : Nat) : Int) ∧ Aside0 (Own B (.slice Ao cur.length co) cur w') ∧ Aside0 (Below B w w')) (fun v _ => 1 + r - (intOf v).toNat)
          case atStart => exact ⟨0, Nat.zero_le _, by simp, HO, HB⟩
          case round =>
            clear HO HB
            obtain ⟨j, hj, rfl, HO, HB⟩ := hrel
            generalize hjj : 1 + j = jj
            obtain ⟨z, hz⟩ : ∃ z : Int, (i : Int) + (jj : Int) = z := ⟨_, rfl⟩
            have hzw : (IntKind.i64.wrap ((i : Int) + (jj : Int))) = z := by rw [i64_w, wrap_id (by unfold In64; omega)]; exact hz
            by_cases hk : i + jj < l.length
            · have p2 : (0 : Int) ≤ z := by omega
              have q2 : z < (l.length : Int) := by omega
              obtain ⟨ad, e1, x1⟩ := Kd.at_int (HR.out _ HB.out) z p2 q2
              cases e1
              obtain ⟨ad2, e2, x2⟩ := Kd.at_int (HR.out _ HB.out) (i : Int) p1 q1
              obtain rfl : ad = ad2 := (by injection e2)
              rw [Int.toNat_natCast] at x2
              have P2 := eq_true p2
              have Q2 := eq_true q2
              have P1 := eq_true p1
              have Q1 := eq_true q1
              have hget : (l.drop (i + 1))[j]? = some (rd l z) := by
                rw [List.getElem?_drop, show i + 1 + j = i + jj by omega, List.getElem?_eq_getElem hk, ← hz]
                simp [rd, List.getD_eq_getElem?_getD, hk, show ((i : Int) + (jj : Int)).toNat = i + jj by omega]
              by_cases hjr : j < r
              · have hv : (rd l z == rd l (i : Int)) = true := by
                  have := same_at _ _ j (by rw [hsr]; exact hjr)
                  rw [hget] at this
                  rw [Option.some.inj this]
                  exact beq_self_eq_true _
                have HX := Aside0.mk hget
                have HV := Aside0.mk hsr
                clear hget hsr e2
                generalize rd l z = y1 at *
                generalize rd l (i : Int) = y2 at *
                go_wp2
                repeat (go_quiet (fail); try go_wp2)
                go_roundw
                case measure => simp [intOf]; omega
                case rel => exact ⟨j + 1, by omega, by go_num, HO, ⟨pw_below_drewN HB.out _⟩⟩
              · have hv : (rd l z == rd l (i : Int)) = false := by
                  obtain rfl : j = r := by omega
                  rw [beq_eq_false_iff_ne]
                  exact same_end _ _ _ (by rw [hsr]; exact hget)
                have HX := Aside0.mk hget
                have HV := Aside0.mk hsr
                clear hget hsr e2
                generalize rd l z = y1 at *
                generalize rd l (i : Int) = y2 at *
                go_wp2
                repeat (go_quiet (fail); try go_wp2)
                go_meet
                case rel => exact ⟨by rw [← hjj]; congr 2; omega, HO, ⟨pw_below_drewN HB.out _⟩⟩
            · have hk2 : decide (z < (l.length : Int)) = false := decide_eq_false (by omega)
              go_wp2
              repeat (go_quiet (fail); try go_wp2)
              go_meet
              case rel => exact ⟨by rw [← hjj]; congr 2; omega, HO, ⟨pw_below_drewN HB.out _⟩⟩
        case rest =>
          obtain ⟨rfl, HO, HB⟩ := hcut
          have HL := Aside0.mk (show cur.length + 1 ≤ 65537 by omega)
          have HIn := Aside0.mk (HW.out (rd l (i : Int)) (by
            have : l[i]? = some (rd l (i : Int)) := by rw [List.getElem?_eq_getElem hlt]; simp [rd, List.getD_eq_getElem?_getD, hlt]
            exact List.mem_of_getElem? this))
          have HS := Aside0.mk hsr
          have HD := Aside0.mk (show l.drop i = rd l (i : Int) :: l.drop (i + 1) by
            rw [List.drop_eq_getElem_cons hlt]
            simp [rd, List.getD_eq_getElem?_getD, hlt])
          have HC2 := Aside0.mk hcap
          clear hsr hcapI
          have hRd : rd l (i : Int) = rd l (i : Int) := rfl
          obtain ⟨x, hx⟩ : ∃ x, rd l (i : Int) = x := ⟨_, rfl⟩
          rw [hx] at HIn HS HD
          clear hRd
          go_wp2_with ((with_reducible refine gate_builtin (b := .append) (xs := #[.tmp 37, .tmp 38]) rfl ?_); (try (refine gate_guard (by rfl) ?_; dsimp only)); at_builtin; refine print_append (w0 := w) B rfl (.tmp 37) (.tmp 38) 40 5 (.int .u8 0) 1 rfl Tryd.underlying40 info5 rfl (by decide) _ _ (.int .u8 32) rfl rfl rfl HO.out HB.out ?hb1 ?hl1 ?_)
          case hb1 => exact Nat.le_trans hBw HB.out.size
          case hl1 => have := HL.out; rw [Lib.byteCells_length]; omega
          intro v1 w1 ho1 hb1 hg1 _
          have HO1 := Aside0.mk (Own.snoc (cur := cur) 32 rfl ho1)
          have HB1 := Aside0.mk hb1
          clear ho1 hb1 hg1 HO HB
          obtain ⟨ad, e1, x1⟩ := Kd.at_int (HR.out _ HB1.out) (i : Int) p1 q1
          cases e1
          rw [Int.toNat_natCast, hx] at x1
          go_wp2_with fail
          refine (rfmt_calls x HIn.out _).mono ?_
          rintro e w2 ⟨rfl, hb2⟩
          have HB2 := Aside0.mk (HB1.out.trans (hb2.mono (Nat.le_trans hBw HB1.out.size)))
          have HO2 := Aside0.mk (HO1.out.below hb2)
          have HF := Aside0.mk (FmtPure.itoa_len x HIn.out)
          clear hb2 HO1 HB1 x1
          obtain ⟨f, hf⟩ : ∃ f, Lib.itoa x = f := ⟨_, rfl⟩
          rw [hf] at HF ⊢
          have HFe := Aside0.mk hf
          clear hf
          go_wp2_with (at_builtin; refine Lib.wpList_append_own_string _ rfl _ _ 40 9 rfl B 5 i0 Tryd.underlying40 Tryd.underlying9 hi0 hz0 hz1 hz2 _ _ _ rfl HO2.out _ rfl ?c3 ?c4 ?c5 ?_)
          case c3 => have := HL.out; have := HF.out; rw [Lib.byteCells_length]; simp [ByteArray.size, maxLen]; omega
          case c4 => have := HL.out; have := HF.out; rw [Lib.byteCells_length]; simp [ByteArray.size]; omega
          case c5 => exact Nat.le_trans hBw HB2.out.size
          intro v3 w3 ho3 hg3 _
          have HB3 := Aside0.mk (HB2.out.grown hg3 (Nat.le_trans hBw HB2.out.size) (own_base HO2.out))
          have HO3 := Aside0.mk (Own.str (s := f) ho3)
          clear ho3 hg3 HO2 HB2
          by_cases hr0 : r = 0
          · subst hr0
            have HN := Aside0.mk (show toldL (l.length - (i + 1)) (cur ++ [32] ++ f) (l.drop (i + 1)) = R by
              have := toldL_step l i cur x _ HD.out HC2.out
              rw [HS.out, HE.out, piece, if_pos rfl, HFe.out, Nat.add_zero] at this
              rw [this]
              simp)
            have HM := Aside0.mk (show (cur ++ [32] ++ f).length ≤ 100000 by have := HL.out; have := HF.out; simp; omega)
            clear HE HC hcap
            go_wp2
            go_roundw
            case measure => simp [intOf]; omega
            case rel => exact ⟨i + 1, _, by omega, by go_num, HN, HM, HO3, HB3⟩
          · have HN := Aside0.mk (show toldL (l.length - (i + 1 + r)) (cur ++ [32] ++ f ++ [42] ++ Lib.itoa ((1 : Int) + (r : Int))) (l.drop (i + 1 + r)) = R by
              have := toldL_step l i cur x _ HD.out HC2.out
              rw [HS.out, HE.out, piece, if_neg hr0, HFe.out, show ((r + 1 : Nat) : Int) = (1 : Int) + (r : Int) by omega] at this
              rw [this]
              simp)
            have HL2 := Aside0.mk (show cur.length + f.length ≤ 70000 by have := HL.out; have := HF.out; omega)
            have HR1 := Aside0.mk (show In64 ((1 : Int) + (r : Int)) by unfold In64; omega)
            have hrI : (1 : Int) < 1 + (r : Int) := by omega
            clear HE HC hcap
            go_wp2_with ((with_reducible refine gate_builtin (b := .append) (xs := #[.tmp 49, .tmp 50]) rfl ?_); (try (refine gate_guard (by rfl) ?_; dsimp only)); at_builtin; refine print_append (w0 := w) B rfl (.tmp 49) (.tmp 50) 40 5 (.int .u8 0) 1 rfl Tryd.underlying40 info5 rfl (by decide) _ _ (.int .u8 42) rfl rfl rfl HO3.out HB3.out ?hb4 ?hl4 ?_)
            case hb4 => exact Nat.le_trans hBw HB3.out.size
            case hl4 => have := HL2.out; rw [Lib.byteCells_length]; simp; omega
            intro v4 w4 ho4 hb4 hg4 _
            have HO4 := Aside0.mk (Own.snoc 42 rfl ho4)
            have HB4 := Aside0.mk hb4
            clear ho4 hb4 hg4 HO3 HB3
            go_wp2_with fail
            refine (rfmt_calls _ HR1.out _).mono ?_
            rintro e w5 ⟨rfl, hb5⟩
            have HB5 := Aside0.mk (HB4.out.trans (hb5.mono (Nat.le_trans hBw HB4.out.size)))
            have HO5 := Aside0.mk (HO4.out.below hb5)
            have HG := Aside0.mk (FmtPure.itoa_len _ HR1.out)
            clear hb5 HO4 HB4
            generalize Lib.itoa ((1 : Int) + (r : Int)) = g at *
            go_wp2_with (at_builtin; refine Lib.wpList_append_own_string _ rfl _ _ 40 9 rfl B 5 i0 Tryd.underlying40 Tryd.underlying9 hi0 hz0 hz1 hz2 _ _ _ rfl HO5.out _ rfl ?d3 ?d4 ?d5 ?_)
            case d3 => have := HL2.out; have := HG.out; rw [Lib.byteCells_length]; simp [ByteArray.size, maxLen]; omega
            case d4 => have := HL2.out; have := HG.out; rw [Lib.byteCells_length]; simp [ByteArray.size]; omega
            case d5 => exact Nat.le_trans hBw HB5.out.size
            intro v6 w6 ho6 hg6 _
            have HB6 := Aside0.mk (HB5.out.grown hg6 (Nat.le_trans hBw HB5.out.size) (own_base HO5.out))
            have HO6 := Aside0.mk (Own.str (s := g) ho6)
            clear ho6 hg6 HO5 HB5
            have HM := Aside0.mk (show (cur ++ [32] ++ f ++ [42] ++ g).length ≤ 100000 by have := HL2.out; have := HG.out; simp; omega)
            go_wp2
            go_roundw
            case measure => simp [intOf]; omega
            case rel => exact ⟨i + 1 + r, _, by omega, by go_num, HN, HM, ⟨by simpa using HO6.out⟩, HB6⟩
      · go_wp2
        go_ret
        have he := HE.out
        rw [toldL_stop l i cur (.inr (by omega))] at he
        exact ⟨_, rfl, he ▸ HO.out, HB.out⟩
    · go_wp2
      go_ret
      have he := HE.out
      rw [toldL_stop l i cur (.inl (by omega))] at he
      exact ⟨_, rfl, he ▸ HO.out, HB.out⟩
end Go.Proofs.YtjlbimnafbngaaaDoor.Enc
