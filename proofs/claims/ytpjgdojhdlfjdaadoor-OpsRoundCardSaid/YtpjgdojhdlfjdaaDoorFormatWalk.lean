/- The contract of ops.Format, and the law OpsFormat: true for every number, in a memory that holds the library's table of powers of ten. -/
import Derived.Test.YtpjgdojhdlfjdaaDoorRows
import Derived.Test.YtpjgdojhdlfjdaaDoorFmt
import Derived.Test.YtpjgdojhdlfjdaaDoorFmtPure
import Derived.Lib.AppendIntMem
import Derived.Lib.LaidTab
import Derived.MakeChecks
import Derived.LaidSub
namespace Go.Proofs.YtpjgdojhdlfjdaaDoor.FormatLaw
open Go.RowKit Go.Proofs.YtpjgdojhdlfjdaaDoorW.PrintWords Go.Proofs.YtpjgdojhdlfjdaaDoor.BitMath Go.Proofs.YtpjgdojhdlfjdaaDoor.POpsFormat

/-- The library's table of powers of ten lies in its variable. -/
def PowAt (W : World) : Prop := Lib.TabIs Tryd.prog W "internal/strconv.uint64pow10" .u64 Lib.pow10Tab
theorem gPow : Tryd.prog.globalNamed "internal/strconv.uint64pow10" = some 2 := by kernel_rfl
theorem PowAt.below {W W' : World} (h : PowAt W) (hb : Below W.heap.size W W') : PowAt W' := by
  unfold PowAt Lib.TabIs World.var? at *
  rw [gPow] at *
  simp only [Option.bind_some] at *
  split at h
  · rename_i cs t fr hk
    rw [(hb.block 2 (Array.getElem?_eq_some_iff.1 hk).1).trans hk]
    exact h
  · cases h
theorem plainLaid : (([("math/bits.deBruijn32tab", Rows.laid_math_bits_deBruijn32tab), ("math/bits.deBruijn64tab", Rows.laid_math_bits_deBruijn64tab), ("internal/strconv.uint64pow10", Rows.laid_internal_strconv_uint64pow10)] : List (String × DataW Unit)).all fun x => x.2.handleName?.isNone) = true := by kernel_rfl
theorem tPow : (Tryd.prog.globals[2]?).map (·.type) = some 77 := by kernel_rfl
theorem laid {W : World} (h : laidMetH Tryd.prog [("math/bits.deBruijn32tab", Rows.laid_math_bits_deBruijn32tab), ("math/bits.deBruijn64tab", Rows.laid_math_bits_deBruijn64tab), ("internal/strconv.uint64pow10", Rows.laid_internal_strconv_uint64pow10)] W) : PowAt W := by
  rw [MakeChecks.laidMetH_plain _ _ _ plainLaid] at h
  have h2 := laidMet.filter (fun x => x.1 == "internal/strconv.uint64pow10") h
  exact Lib.tabIs_of_head (rest := []) gPow tPow Tryd.underlying77 Tryd.underlying71 (by kernel_rfl) (by kernel_rfl) h2

set_option maxHeartbeats 400000 in
theorem format_calls (v : Int) (hv : In64 v) (w : World) (hT : PowAt w) :
    Calls Tryd.prog 31 #[.int .i64 v] w fun e w' => e = .returned (.string ⟨(Lib.itoa v).toArray⟩) ∧ Below w.heap.size w w' := by
  have HT := Aside0.mk hT
  have HV := Aside0.mk hv
  clear hT hv
  generalize hs : (⟨(Lib.itoa v).toArray⟩ : ByteArray) = s
  have HS := Aside0.mk hs
  clear hs
  go_enter Tryd.func31, Tryd.ntmps31
  go_wp2_with fail
  refine (Tryd.strconv_FormatInt_10 v HV.out.1 HV.out.2 _ HT.out).mono ?_
  rintro e w' ⟨rfl, k, os, rfl⟩
  rw [HS.out]
  have HB := Aside0.mk (Lib.below_grow w.heap.size w (Nat.le_refl _) k os)
  generalize Sort.grow (w.drewN k) os = w1 at *
  go_wp2
  go_ret
  exact ⟨rfl, HB.out⟩

set_option maxHeartbeats 400000 in
theorem walk (v : Int) (hv : (Lit.int .i64 v).wf = true) (w : World) (hT : PowAt w) :
    Calls Tryd.prog 10 #[.int .i64 v] w fun e w' => e = .returned (.bool true) ∧ Below w.heap.size w w' := by
  have HC := Aside0.mk (format_calls v (in64_of_wf hv) w hT)
  have HF := Aside0.mk (FmtPure.format_f v (in64_of_wf hv) 20 (by omega))
  clear hv hT
  generalize (⟨(Lib.itoa v).toArray⟩ : ByteArray) = s at *
  go_enter Tryd.func10, Tryd.ntmps10
  go_wp2_with fail
  refine HC.out.mono ?_
  rintro e w1 ⟨rfl, hb⟩
  have HB := Aside0.mk hb
  clear hb HC
  go_wp2_with fail
  refine (plunderref1_Format.calls 20 v s w1 HF.out).mono ?_
  rintro e w2 ⟨rfl, hd⟩
  have HB2 := Aside0.mk (below_step HB.out (by first | exact hd | exact hd.below))
  clear hd HB
  go_wp2
  go_ret
  exact ⟨by simp, HB2.out⟩
end Go.Proofs.YtpjgdojhdlfjdaaDoor.FormatLaw
