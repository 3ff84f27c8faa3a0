/- The contract of ops.Format: in a memory that holds the library's table of powers of ten. -/
import Derived.Test.YtjlbimnafbngaaaDoorRows
import Derived.Test.YtjlbimnafbngaaaDoorShelf
import Derived.Test.YtjlbimnafbngaaaDoorWWords
import Derived.RowKit
import Derived.Test.YtjlbimnafbngaaaDoorBitMath
import Derived.Lib.AppendIntMem
import Derived.Lib.LaidTab
import Derived.MakeChecks
import Derived.LaidSub
namespace Go.Proofs.YtjlbimnafbngaaaDoor.Fmt
open Go.RowKit Go.Proofs.YtjlbimnafbngaaaDoorW.PrintWords Go.Proofs.YtjlbimnafbngaaaDoor.BitMath

/-- The library's table of powers of ten lies in its variable. -/
def PowAt (W : World) : Prop := Lib.TabIs Tryd.prog W "internal/strconv.uint64pow10" .u64 Lib.pow10Tab
theorem gPow : Tryd.prog.globalNamed "internal/strconv.uint64pow10" = some 1 := by kernel_rfl
theorem PowAt.below {W W' : World} (h : PowAt W) (hb : Below W.heap.size W W') : PowAt W' := by
  unfold PowAt Lib.TabIs World.var? at *
  rw [gPow] at *
  simp only [Option.bind_some] at *
  split at h
  · rename_i cs t fr hk
    rw [(hb.block 1 (Array.getElem?_eq_some_iff.1 hk).1).trans hk]
    exact h
  · cases h
theorem plainLaid : (([("math/bits.deBruijn32tab", Rows.laid_math_bits_deBruijn32tab), ("math/bits.deBruijn64tab", Rows.laid_math_bits_deBruijn64tab), ("internal/strconv.uint64pow10", Rows.laid_internal_strconv_uint64pow10)] : List (String × DataW Unit)).all fun x => x.2.handleName?.isNone) = true := by kernel_rfl
theorem tPow : (Tryd.prog.globals[1]?).map (·.type) = some 97 := by kernel_rfl
theorem laid {W : World} (h : laidMetH Tryd.prog [("math/bits.deBruijn32tab", Rows.laid_math_bits_deBruijn32tab), ("math/bits.deBruijn64tab", Rows.laid_math_bits_deBruijn64tab), ("internal/strconv.uint64pow10", Rows.laid_internal_strconv_uint64pow10)] W) : PowAt W := by
  rw [MakeChecks.laidMetH_plain _ _ _ plainLaid] at h
  have h2 := laidMet.filter (fun x => x.1 == "internal/strconv.uint64pow10") h
  exact Lib.tabIs_of_head (rest := []) gPow tPow Tryd.underlying97 Tryd.underlying90 (by kernel_rfl) (by kernel_rfl) h2

set_option maxHeartbeats 400000 in
theorem format_calls (v : Int) (hv : In64 v) (w : World) (hT : PowAt w) :
    Calls Tryd.prog 31 #[.int .i64 v] w fun e w' => e = .returned (.string ⟨(Lib.itoa v).toArray⟩) ∧ Below w.heap.size w w' := by
  have HT := Aside0.mk hT
  have HV := Aside0.mk hv
  clear hT hv
  generalize hs : (⟨(Lib.itoa v).toArray⟩ : ByteArray) = s
  have HS := Aside0.mk hs
  clear hs
  go_enter Tryd.func31, Tryd.ntmps31
  go_wp2_with fail
  refine (Tryd.strconv_FormatInt_10 v HV.out.1 HV.out.2 _ HT.out).mono ?_
  rintro e w' ⟨rfl, k, os, rfl⟩
  rw [HS.out]
  have HB := Aside0.mk (Lib.below_grow w.heap.size w (Nat.le_refl _) k os)
  generalize Sort.grow (w.drewN k) os = w1 at *
  go_wp2
  go_ret
  exact ⟨rfl, HB.out⟩

end Go.Proofs.YtjlbimnafbngaaaDoor.Fmt
