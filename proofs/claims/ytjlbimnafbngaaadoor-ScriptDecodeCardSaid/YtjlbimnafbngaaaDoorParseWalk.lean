/- The contract of ops.Parse: for every text its number or the error, in a memory that holds the library's table of powers of ten. -/
import Derived.Test.YtjlbimnafbngaaaDoorFmt
import Derived.Test.YtjlbimnafbngaaaDoorParsePure
import Derived.Lib.OthersKept
import Derived.Laws.RangeAny
import Derived.BigQuiet
import Derived.Lib.Hide
namespace Go.Proofs.YtjlbimnafbngaaaDoor.ParseLaw
open Go.RowKit Go.Proofs.YtjlbimnafbngaaaDoorW.PrintWords Go.Proofs.YtjlbimnafbngaaaDoor.BitMath Go.Proofs.YtjlbimnafbngaaaDoor.Fmt Go.Proofs.YtjlbimnafbngaaaDoor.ParsePure

theorem size_len (s : ByteArray) : s.data.toList.length = s.size := by rw [Array.length_toList]; rfl
theorem take_cons (s : ByteArray) (p : Nat) (h : p < s.size) : s.data.toList = s.data.toList.take p ++ s[p] :: s.data.toList.drop (p + 1) := by
  have h2 : p < s.data.toList.length := by rw [size_len]; exact h
  conv => lhs; rw [← List.take_append_drop p s.data.toList, List.drop_eq_getElem_cons h2]
  rfl
theorem take_snoc (s : ByteArray) (p : Nat) (h : p < s.size) : s.data.toList.take (p + 1) = s.data.toList.take p ++ [s[p]] := by
  rw [List.take_succ_eq_append_getElem (by rw [size_len]; exact h)]; rfl

/-- The program's test on what is about to pass int64's bound. -/
theorem over_iff (v c : Int) (h0 : 48 ≤ c) (h1 : c ≤ 57) : v < (-9223372036854775808 + (c - 48)).tdiv 10 ↔ v * 10 - (c - 48) < -9223372036854775808 := by
  have e : (-9223372036854775808 + (c - 48)).tdiv 10 = -((9223372036854775808 - (c - 48)) / 10) := by
    rw [show -9223372036854775808 + (c - 48) = -(9223372036854775808 - (c - 48)) by omega, Int.neg_tdiv, Int.tdiv_eq_ediv_of_nonneg (by omega)]
  rw [e]
  omega
theorem str_eq (y : Int) (s : ByteArray) : (⟨(Lib.itoa y).toArray⟩ : ByteArray).toList = s.toList ↔ Lib.itoa y = s.data.toList := by
  rw [Go.ByteArray.toList_eq, Go.ByteArray.toList_eq]
theorem first_of (s : ByteArray) (h : 0 < s.size) (hb : s[0] = 45) : s.data.toList.take (0 + 1) = [45] := by
  rw [take_snoc s 0 h, hb]; rfl

set_option maxHeartbeats 1000000 in
set_option maxRecDepth 100000 in
theorem parse_calls (s : ByteArray) (w : World) (hs : s.size ≤ 9223372036854775807) (hT : PowAt w) :
    Calls Tryd.prog 44 #[.string s] w fun e w' => (∃ r1 r2, e = .returned (.tuple #[.int .i64 r1, .int .i64 r2]) ∧ IsParse s.data.toList (r1, r2)) ∧ Below w.heap.size w w' := by
  by_cases h20 : s.size > 20
  · have h21 : (20 : Int) < (s.size : Int) := by omega
    have HP := Aside0.mk (show IsParse s.data.toList (0, 2) from .inl ⟨by rw [size_len]; exact h20, rfl⟩)
    clear hT h20 hs
    go_enter Tryd.func44, Tryd.ntmps44
    go_wp2
    go_ret2
    exact ⟨⟨0, 2, rfl, HP.out⟩, Below.refl _ _⟩
  · have h21 : (s.size : Int) ≤ 20 := by omega
    have HL := Aside0.mk (show s.data.toList.length ≤ 20 by rw [size_len]; omega)
    have HT := Aside0.mk hT
    have HSZ := Aside0.mk (show s.size ≤ 20 by omega)
    clear hT h20 hs
    go_enter Tryd.func44, Tryd.ntmps44
    go_wp2
    go_loopw [4, 5, 6] (fun v m n wr => ∃ (pos nn : Nat) (minus : Bool) (vv : Int), pos ≤ s.size ∧ v = .int .i64 vv ∧ m = .bool minus ∧ n = .int .i64 nn ∧ Aside0 (HasRead (s.data.toList.take pos) minus vv nn) ∧ Aside0 (-9223372036854775808 ≤ vv) ∧ Aside0 (wr.heap[w.heap.size]? = some (.stringIter s pos)) ∧ Aside0 (Below w.heap.size w wr)) (fun _ _ _ wr => s.size - wr.iterPos (w.heap.size))
    case atStart =>
      refine ⟨0, 0, false, 0, by omega, rfl, rfl, rfl, ⟨by simpa using HasRead.nil⟩, ⟨by omega⟩, ⟨?_⟩, ⟨(Below.refl _ w).alloc (Nat.le_refl _) _⟩⟩
      have := World.iter_heap w s 0
      simpa using this
    case round =>
      obtain ⟨pos, nn, minus, vv, hpos, rfl, rfl, rfl, HR, HV, HI, HB⟩ := hrel
      by_cases hp : pos < s.size
      · have HS := Aside0.mk (take_cons s pos hp)
        have HS2 := Aside0.mk (take_snoc s pos hp)
        by_cases ha : (s[pos]).toNat < 128
        · have hnx : ∀ ty, (Instr.next (.pointer (some ⟨w.heap.size, 0, none⟩)) true ty).run Tryd.prog wr = _ := fun ty => Lib.run_next_ascii_at wr w.heap.size s pos ty HI.out hp ha
          have HI2 := Aside0.mk (Lib.iterAt_heap wr w.heap.size s pos (pos + 1) HI.out)
          have HB2 := Aside0.mk (Lib.below_iterAt HB.out (k := w.heap.size) (Nat.le_refl _) s (pos + 1))
          obtain ⟨z, hz⟩ : ∃ z, ((pos : Int) == 0) = z := ⟨_, rfl⟩
          have HZ := Aside0.mk (show z = true ↔ pos = 0 by rw [← hz]; simp)
          by_cases hd : Dig s[pos]
          · have c1 : ((s[pos].toNat : Int) == 45) = false := by unfold Dig at hd; exact beq_eq_false_iff_ne.2 (by omega)
            have c2 : decide ((s[pos].toNat : Int) < 48) = false := by unfold Dig at hd; exact decide_eq_false (by omega)
            have c3 : decide ((57 : Int) < (s[pos].toNat : Int)) = false := by unfold Dig at hd; exact decide_eq_false (by omega)
            have b0 : 48 ≤ (s[pos].toNat : Int) := by unfold Dig at hd; omega
            have b1 : (s[pos].toNat : Int) ≤ 57 := by unfold Dig at hd; omega
            have HD := Aside0.mk hd
            have HVL := Aside0.mk HR.out.le
            have ho := over_iff vv _ b0 b1
            clear hd
            by_cases hv : vv * 10 - ((s[pos].toNat : Int) - 48) < -9223372036854775808
            · have HN := Aside0.mk (show IsParse s.data.toList (0, 4) from .inr (.inr ⟨HL.out, fun x hx e => too_big HR.out HD.out hv x hx (e.trans HS.out), rfl⟩))
              have o1 := decide_eq_true (ho.2 hv)
              generalize hc : (s[pos].toNat : Int) = c at *
              clear hc ho hv
              cases z
              all_goals
                go_wp2
                go_ret2
                exact ⟨⟨0, 4, rfl, HN.out⟩, HB2.out⟩
            · have hv2 : -9223372036854775808 ≤ vv * 10 - ((s[pos].toNat : Int) - 48) := by omega
              have hv3 : vv ≤ 0 := HVL.out
              have HN := Aside0.mk (show HasRead (s.data.toList.take (pos + 1)) minus (vv * 10 - ((s[pos].toNat : Int) - 48)) (nn + 1) by rw [HS2.out]; exact HR.out.digit HD.out)
              have HV2 := Aside0.mk hv2
              have HNN := Aside0.mk (show nn ≤ 20 by have h1 := HR.out.len; have h2 := HSZ.out; rw [List.length_take] at h1; omega)
              have hnn : (nn : Int) ≤ 20 := by have := HNN.out; omega
              have o1 := decide_eq_false (fun h => hv (ho.1 h))
              generalize hc : (s[pos].toNat : Int) = c at *
              clear hc hv ho
              cases z
              all_goals
                go_wp2
                go_roundw
                case rel => exact ⟨pos + 1, nn + 1, minus, _, by omega, rfl, rfl, by go_num, HN, HV2, HI2, HB2⟩
                case measure => simp only [World.iterPos, HI2.out, HI.out]; omega
          · by_cases hm : pos = 0 ∧ s[pos] = 45
            · obtain ⟨h0, h45⟩ := hm
              have hzt := HZ.out.2 h0
              subst hzt
              have c1 : ((s[pos].toNat : Int) == 45) = true := by rw [h45]; rfl
              have HN := Aside0.mk (show HasRead (s.data.toList.take (pos + 1)) true vv nn by
                subst h0
                have h1 := HR.out
                rw [List.take_zero] at h1
                rcases h1 with ⟨_, r, hr, _⟩ | ⟨_, _, rfl, rfl⟩
                · cases hr
                · rw [first_of s hp h45]; exact HasRead.sign)
              generalize hc : (s[pos].toNat : Int) = c at *
              clear hc hd h0 h45
              go_wp2
              go_roundw
              case rel => exact ⟨pos + 1, nn, true, vv, by omega, rfl, rfl, rfl, HN, HV, HI2, HB2⟩
              case measure => simp only [World.iterPos, HI2.out, HI.out]; omega
            · have HN := Aside0.mk (show IsParse s.data.toList (0, 4) from .inr (.inr ⟨HL.out, fun x _ e => no_digit (p := s.data.toList.take pos) (q := s.data.toList.drop (pos + 1)) (b := s[pos]) hd (by
                by_cases h0 : pos = 0
                · exact .inr (fun h => hm ⟨h0, h⟩)
                · refine .inl (fun h => ?_)
                  have h1 := congrArg List.length h
                  rw [List.length_take, size_len, List.length_nil] at h1
                  omega) x (e.trans HS.out), rfl⟩))
              have cz : (z && ((s[pos].toNat : Int) == 45)) = false := by
                cases hzz : z with
                | false => rfl
                | true =>
                  have h0 := HZ.out.1 hzz
                  refine beq_eq_false_iff_ne.2 (fun h => hm ⟨h0, ?_⟩)
                  exact UInt8.toNat_inj.1 (by show _ = 45; omega)
              have hlo : (s[pos].toNat : Int) < 48 ∨ 57 < (s[pos].toNat : Int) := by unfold Dig at hd; omega
              generalize hc : (s[pos].toNat : Int) = c at *
              clear hc hd hm
              rcases hlo with hlo | hlo
              · have c2 : decide (c < 48) = true := decide_eq_true hlo
                clear hlo
                cases z
                · clear cz
                  go_wp2
                  go_ret2
                  exact ⟨⟨0, 4, rfl, HN.out⟩, HB2.out⟩
                · have c1 : (c == 45) = false := by simpa using cz
                  clear cz
                  go_wp2
                  go_ret2
                  exact ⟨⟨0, 4, rfl, HN.out⟩, HB2.out⟩
              · have c2 : decide (c < 48) = false := decide_eq_false (by omega)
                have c3 : decide (57 < c) = true := decide_eq_true hlo
                clear hlo
                cases z
                · clear cz
                  go_wp2
                  go_ret2
                  exact ⟨⟨0, 4, rfl, HN.out⟩, HB2.out⟩
                · have c1 : (c == 45) = false := by simpa using cz
                  clear cz
                  go_wp2
                  go_ret2
                  exact ⟨⟨0, 4, rfl, HN.out⟩, HB2.out⟩
        · have hh := decode_high s pos hp (by omega)
          have hle := decode_le s pos
          have hnx : ∀ ty, (Instr.next (.pointer (some ⟨w.heap.size, 0, none⟩)) true ty).run Tryd.prog wr = _ := fun ty => Lib.run_next_any_at wr w.heap.size s pos ty HI.out hp
          have HB2 := Aside0.mk (Lib.below_iterAt HB.out (k := w.heap.size) (Nat.le_refl _) s (pos + (Utf8.decode s pos).2))
          have HN := Aside0.mk (show IsParse s.data.toList (0, 4) from .inr (.inr ⟨HL.out, fun x _ e => no_digit (p := s.data.toList.take pos) (q := s.data.toList.drop (pos + 1)) (b := s[pos]) (by unfold Dig; omega) (.inr (fun e => by rw [e] at ha; exact ha (by decide))) x (e.trans HS.out), rfl⟩))
          have c1 : (((Utf8.decode s pos).1 : Int) == 45) = false := beq_eq_false_iff_ne.2 (by omega)
          have c2 : decide (((Utf8.decode s pos).1 : Int) < 48) = false := decide_eq_false (by omega)
          have c3 : decide ((57 : Int) < ((Utf8.decode s pos).1 : Int)) = true := decide_eq_true (by omega)
          generalize (Utf8.decode s pos).1 = c at *
          generalize (Utf8.decode s pos).2 = wd at *
          obtain ⟨z, hz⟩ : ∃ z, ((pos : Int) == 0) = z := ⟨_, rfl⟩
          clear hh hle
          cases z
          all_goals
            go_wp2
            go_ret2
            exact ⟨⟨0, 4, rfl, HN.out⟩, HB2.out⟩
      · have hnx : ∀ ty, (Instr.next (.pointer (some ⟨w.heap.size, 0, none⟩)) true ty).run Tryd.prog wr = _ := fun ty => Lib.run_next_end_at wr w.heap.size s pos ty HI.out hp
        obtain rfl : pos = s.size := by omega
        have HRW := Aside0.mk (show HasRead s.data.toList minus vv nn by
          have h1 := HR.out
          rwa [List.take_of_length_le (by rw [size_len]; exact Nat.le_refl _)] at h1)
        have HVL := Aside0.mk HR.out.le
        clear HR
        by_cases h0 : nn = 0
        · have HN := Aside0.mk (show IsParse s.data.toList (0, 4) from .inr (.inr ⟨HL.out, fun x _ e => (HRW.out.whole e).1 h0, rfl⟩))
          have hz : ((nn : Int) == 0) = true := by rw [h0]; rfl
          clear h0
          go_wp2_with fail
          go_ret2
          exact ⟨⟨0, 4, rfl, HN.out⟩, HB.out⟩
        · have hz : ((nn : Int) == 0) = false := beq_eq_false_iff_ne.2 (by omega)
          clear h0
          by_cases hm : minus = false ∧ vv = -9223372036854775808
          · obtain ⟨rfl, hv⟩ := hm
            have HN := Aside0.mk (show IsParse s.data.toList (0, 4) from .inr (.inr ⟨HL.out, fun x hx e => by
              have h1 := (HRW.out.whole e).2
              unfold In64 at hx
              simp at h1
              omega, rfl⟩))
            have hvm : (vv == -9223372036854775808) = true := beq_iff_eq.2 hv
            clear hv
            go_wp2_with fail
            go_ret2
            exact ⟨⟨0, 4, rfl, HN.out⟩, HB.out⟩
          · have fin : ∀ (y : Int), In64 y → (∀ x, Lib.itoa x = s.data.toList → x = y) → ((Lib.itoa y = s.data.toList → IsParse s.data.toList (y, 0)) ∧ (Lib.itoa y ≠ s.data.toList → IsParse s.data.toList (0, 4))) := fun y hy hu =>
              ⟨fun h => .inr (.inl ⟨HL.out, y, hy, h, rfl⟩), fun h => .inr (.inr ⟨HL.out, fun x _ e => h (hu x e ▸ e), rfl⟩)⟩
            have HTR := Aside0.mk (HT.out.below HB.out)
            cases minus
            · have hv : vv ≠ -9223372036854775808 := fun h => hm ⟨rfl, h⟩
              have hin : In64 (-vv) := by have h1 := HV.out; have h2 := HVL.out; unfold In64; omega
              have HF := Aside0.mk (fin (-vv) hin (fun x e => by simpa using (HRW.out.whole e).2))
              have hvm : (vv == -9223372036854775808) = false := beq_eq_false_iff_ne.2 hv
              have HW := Aside0.mk (wrap_id hin)
              have HC := Aside0.mk (fun W => format_calls (-vv) hin W)
              clear hv hm fin hin
              go_wp2_with fail
              rw [HW.out]
              refine (HC.out _ HTR.out).mono ?_
              rintro e w1 ⟨rfl, hb⟩
              have HB2 := Aside0.mk (below_step HB.out hb)
              clear hb HC
              have HQ := Aside0.mk (str_eq (-vv) s)
              generalize (⟨(Lib.itoa (-vv)).toArray⟩ : ByteArray) = q at *
              by_cases h : q.toList = s.toList
              · have hq : (q.toList == s.toList) = true := beq_iff_eq.2 h
                have HR2 := Aside0.mk (HF.out.1 (HQ.out.1 h))
                clear h
                go_wp2
                go_ret2
                exact ⟨⟨_, 0, rfl, HR2.out⟩, HB2.out⟩
              · have hq : (q.toList == s.toList) = false := beq_eq_false_iff_ne.2 h
                have HR2 := Aside0.mk (HF.out.2 (fun e => h (HQ.out.2 e)))
                clear h
                go_wp2
                go_ret2
                exact ⟨⟨0, 4, rfl, HR2.out⟩, HB2.out⟩
            · have hin : In64 vv := by have h1 := HV.out; have h2 := HVL.out; unfold In64; omega
              have HF := Aside0.mk (fin vv hin (fun x e => by simpa using (HRW.out.whole e).2))
              have HC := Aside0.mk (fun W => format_calls vv hin W)
              clear hm fin hin
              go_wp2_with fail
              refine (HC.out _ HTR.out).mono ?_
              rintro e w1 ⟨rfl, hb⟩
              have HB2 := Aside0.mk (below_step HB.out hb)
              clear hb HC
              have HQ := Aside0.mk (str_eq vv s)
              generalize (⟨(Lib.itoa vv).toArray⟩ : ByteArray) = q at *
              by_cases h : q.toList = s.toList
              · have hq : (q.toList == s.toList) = true := beq_iff_eq.2 h
                have HR2 := Aside0.mk (HF.out.1 (HQ.out.1 h))
                clear h
                go_wp2
                go_ret2
                exact ⟨⟨_, 0, rfl, HR2.out⟩, HB2.out⟩
              · have hq : (q.toList == s.toList) = false := beq_eq_false_iff_ne.2 h
                have HR2 := Aside0.mk (HF.out.2 (fun e => h (HQ.out.2 e)))
                clear h
                go_wp2
                go_ret2
                exact ⟨⟨0, 4, rfl, HR2.out⟩, HB2.out⟩
end Go.Proofs.YtjlbimnafbngaaaDoor.ParseLaw
