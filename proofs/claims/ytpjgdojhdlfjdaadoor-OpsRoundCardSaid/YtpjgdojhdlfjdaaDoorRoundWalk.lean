/- The law OpsRound answers true for every number and every text, in a memory that holds the library's table of powers of ten. -/
import Derived.Test.YtpjgdojhdlfjdaaDoorParseWalk
namespace Go.Proofs.YtpjgdojhdlfjdaaDoor.RoundLaw
open Go.RowKit Go.Proofs.YtpjgdojhdlfjdaaDoorW.PrintWords Go.Proofs.YtpjgdojhdlfjdaaDoor.BitMath Go.Proofs.YtpjgdojhdlfjdaaDoor.FormatLaw Go.Proofs.YtpjgdojhdlfjdaaDoor.ParsePure
open Go.Proofs.YtpjgdojhdlfjdaaDoor.ParseLaw (parse_calls)

theorem parse_own (v : Int) (hv : In64 v) (w : World) (hT : PowAt w) :
    Calls Tryd.prog 33 #[.string ⟨(Lib.itoa v).toArray⟩] w fun e w' => e = .returned (.tuple #[.int .i64 v, .int .i64 0]) ∧ Below w.heap.size w w' := by
  have hl := (FmtPure.itoa_len v hv).2
  refine (parse_calls ⟨(Lib.itoa v).toArray⟩ w (by show (Lib.itoa v).toArray.size ≤ _; simp; omega) hT).mono ?_
  rintro e w' ⟨⟨r1, r2, rfl, h⟩, hb⟩
  have h2 : IsParse (⟨(Lib.itoa v).toArray⟩ : ByteArray).data.toList (v, 0) := .inr (.inl ⟨by simpa using hl, v, hv, by simp, rfl⟩)
  have e := h.one h2
  simp only [Prod.mk.injEq] at e
  obtain ⟨rfl, rfl⟩ := e
  exact ⟨rfl, hb⟩

set_option maxHeartbeats 1000000 in
set_option maxRecDepth 100000 in
theorem walk (v : Int) (hv : (Lit.int .i64 v).wf = true) (s : ByteArray) (hs : s.size ≤ 9223372036854775807) (w : World) (hT : PowAt w) :
    Calls Tryd.prog 12 #[.int .i64 v, .string s] w fun e w' => e = .returned (.bool true) ∧ Below w.heap.size w w' := by
  have HT := Aside0.mk hT
  have HC := Aside0.mk (format_calls v (in64_of_wf hv) w hT)
  have HP := Aside0.mk (fun W => parse_own v (in64_of_wf hv) W)
  have HQ := Aside0.mk (fun W => parse_calls s W hs)
  have hl := FmtPure.itoa_len v (in64_of_wf hv)
  have hq1 : (⟨(Lib.itoa v).toArray⟩ : ByteArray).toList.isEmpty = false := by
    rw [Go.ByteArray.toList_eq]
    cases h : Lib.itoa v with
    | nil => rw [h] at hl; simp at hl
    | cons b r => rfl
  have hq2 : ((⟨(Lib.itoa v).toArray⟩ : ByteArray).size : Int) ≤ 20 := by show ((Lib.itoa v).toArray.size : Int) ≤ 20; simp; omega
  clear hv hT hs hl
  generalize (⟨(Lib.itoa v).toArray⟩ : ByteArray) = q at *
  go_enter Tryd.func12, Tryd.ntmps12
  go_wp2_with fail
  refine HC.out.mono ?_
  rintro e w1 ⟨rfl, hb⟩
  have HB1 := Aside0.mk hb
  clear hb HC
  go_wp2_with fail
  refine (HP.out _ (HT.out.below HB1.out)).mono ?_
  rintro e w2 ⟨rfl, hb⟩
  have HB2 := Aside0.mk (below_step HB1.out hb)
  clear hb HP HB1
  go_wp2_with fail
  refine (HQ.out _ (HT.out.below HB2.out)).mono ?_
  rintro e w3 ⟨⟨r1, r2, rfl, hr⟩, hb⟩
  have HB3 := Aside0.mk (below_step HB2.out hb)
  clear hb HQ HB2
  rcases hr with ⟨_, hr⟩ | ⟨_, x, hx, he, hr⟩ | ⟨_, _, hr⟩
  · simp only [Prod.mk.injEq] at hr
    obtain ⟨rfl, rfl⟩ := hr
    go_wp2
    go_ret
    exact ⟨rfl, HB3.out⟩
  · simp only [Prod.mk.injEq] at hr
    obtain ⟨rfl, rfl⟩ := hr
    have HF := Aside0.mk (format_calls r1 hx _ (HT.out.below HB3.out))
    have e2 : (⟨(Lib.itoa r1).toArray⟩ : ByteArray) = s := by
      apply ByteArray.ext
      apply Array.ext'
      rw [← he]
    rw [e2] at HF
    clear e2 he hx
    go_wp2_with fail
    refine HF.out.mono ?_
    rintro e w4 ⟨rfl, hb⟩
    have HB4 := Aside0.mk (below_step HB3.out hb)
    clear hb HF HB3
    go_wp2
    go_ret
    exact ⟨by simp, HB4.out⟩
  · simp only [Prod.mk.injEq] at hr
    obtain ⟨rfl, rfl⟩ := hr
    go_wp2
    go_ret
    exact ⟨rfl, HB3.out⟩
end Go.Proofs.YtpjgdojhdlfjdaaDoor.RoundLaw
