/- The decimal numeral, as the document's own answer makes it, is the library's: plain facts, for every int64. -/
import Derived.Test.YtjlbimnafbngaaaDoorBitMath
import Derived.Test.YtjlbimnafbngaaaDoorPScriptEncodex2
import Derived.Lib.ItoaNum
namespace Go.Proofs.YtjlbimnafbngaaaDoor.FmtPure
open Go.RowKit Go.Proofs.YtjlbimnafbngaaaDoorW.PrintWords Go.Proofs.YtjlbimnafbngaaaDoor.BitMath Go.Proofs.YtjlbimnafbngaaaDoor.PScriptEncode

/-- The digits of u, none for 0. -/
def digs (u : Nat) : List UInt8 := if u = 0 then [] else Lib.decDigits u
theorem digs_step (u : Nat) (h : 0 < u) : digs u = digs (u / 10) ++ [UInt8.ofNat (48 + u % 10)] := by
  unfold digs
  rw [if_neg (by omega)]
  by_cases h1 : u < 10
  · rw [Lib.decDigits, dif_pos h1, if_pos (by omega), Nat.mod_eq_of_lt h1]; rfl
  · rw [Lib.decDigits, dif_neg h1, if_neg (by omega)]
theorem digs_len (k : Nat) : ∀ u, u < 10 ^ k → (digs u).length ≤ k := by
  induction k with
  | zero => intro u h; have : u = 0 := by simpa using h
            subst this; simp [digs]
  | succ k ih =>
    intro u h
    by_cases h0 : u = 0
    · subst h0; simp [digs]
    · rw [digs_step u (by omega), List.length_append]
      have := ih (u / 10) (by rw [Nat.pow_succ] at h; omega)
      simp
      omega

theorem ba_append (a b : List UInt8) : (⟨a.toArray⟩ : ByteArray) ++ ⟨b.toArray⟩ = ⟨(a ++ b).toArray⟩ := by
  apply ByteArray.ext
  simp [ByteArray.data_append]
theorem str_one (x : Int) : strOfNums [x] = ⟨[UInt8.ofNat x.toNat].toArray⟩ := by
  unfold strOfNums
  simp
theorem byte_of (d : Nat) (h : d < 10) : (wrap64 (48 + (d : Int))) % 256 = ((48 + d : Nat) : Int) := by
  rw [wrap_id (by unfold In64; omega)]
  omega

theorem digits_f (k : Nat) : ∀ v : Int, In64 v → v.natAbs < 10 ^ k → k ≤ 40 → plunderref1_digits.f (k + 1) v = some ⟨(digs v.natAbs).toArray⟩ := by
  induction k with
  | zero =>
    intro v _ h _
    have : v = 0 := by simp at h; omega
    subst this
    simp [plunderref1_digits.f, digs]
  | succ k ih =>
    intro v hv h hk
    by_cases h0 : v = 0
    · subst h0; simp [plunderref1_digits.f, digs]
    · have hin := tdiv_in (b := 10) hv (by decide)
      have hq : (v.tdiv 10).natAbs = v.natAbs / 10 := by rw [Int.natAbs_tdiv]; rfl
      have hr : (v.tmod 10).natAbs = v.natAbs % 10 := by rw [Int.natAbs_tmod]; rfl
      have hl : v.natAbs / 10 < 10 ^ k := by rw [Nat.pow_succ] at h; omega
      have e := ih (v.tdiv 10) hin (by rw [hq]; exact hl) (by omega)
      rw [hq] at e
      have hlen := digs_len k _ hl
      have hd := digs_step v.natAbs (by omega)
      have hm : v.natAbs % 10 < 10 := Nat.mod_lt _ (by decide)
      rw [plunderref1_digits.f, if_neg h0, wrap_id hin, e]
      simp only [Option.bind_some]
      have fin : ∀ x : Int, x = ((48 + v.natAbs % 10 : Nat) : Int) → (if (⟨(digs (v.natAbs / 10)).toArray⟩ : ByteArray).size + (strOfNums [x]).size ≤ 9223372036854775807 then some ((⟨(digs (v.natAbs / 10)).toArray⟩ : ByteArray) ++ strOfNums [x]) else none) = some ⟨(digs v.natAbs).toArray⟩ := by
        rintro x rfl
        rw [str_one, Int.toNat_natCast, if_pos, ba_append, hd]
        show (digs (v.natAbs / 10)).toArray.size + [UInt8.ofNat (48 + v.natAbs % 10)].toArray.size ≤ _
        simp
        omega
      by_cases hn : v.tmod 10 < 0
      · rw [if_pos hn]
        apply fin
        have e1 : wrap64 (-(v.tmod 10)) = ((v.natAbs % 10 : Nat) : Int) := by rw [wrap_id (by unfold In64; omega)]; omega
        rw [e1, byte_of _ hm]
      · rw [if_neg hn]
        apply fin
        have e1 : v.tmod 10 = ((v.natAbs % 10 : Nat) : Int) := by omega
        rw [e1, byte_of _ hm]

theorem format_f (v : Int) (hv : In64 v) (k : Nat) (hk : 20 ≤ k) : plunderref1_Format.f k v = some ⟨(Lib.itoa v).toArray⟩ := by
  have hb : v.natAbs < 10 ^ 19 := by unfold In64 at hv; omega
  have hlen := digs_len 19 _ hb
  have e := at_rounds (fun n => plunderref1_digits.mono v n) hk (digits_f 19 v hv hb (by omega))
  unfold plunderref1_Format.f Lib.itoa
  by_cases h0 : v = 0
  · subst h0
    rw [if_pos rfl, if_neg (by decide), Lib.decDigits, dif_pos (by decide)]
    rfl
  · have hd : digs v.natAbs = Lib.decDigits v.natAbs := by unfold digs; rw [if_neg (by omega)]
    rw [if_neg h0, e]
    simp only [Option.bind_some]
    by_cases hn : v < 0
    · rw [if_pos hn, if_pos hn, if_pos, ← hd]
      · exact congrArg some (ba_append [45] _)
      · show 1 + (digs v.natAbs).toArray.size ≤ _
        simp
        omega
    · rw [if_neg hn, if_neg hn, show v.toNat = v.natAbs by omega, hd]

/-- How long a numeral is. -/
theorem itoa_len (v : Int) (hv : In64 v) : 1 ≤ (Lib.itoa v).length ∧ (Lib.itoa v).length ≤ 20 := by
  have hb : v.natAbs < 10 ^ 19 := by unfold In64 at hv; omega
  have hlen := digs_len 19 _ hb
  have hp : ∀ u : Nat, 1 ≤ (Lib.decDigits u).length := by
    intro u
    rw [Lib.decDigits]
    split <;> simp
  unfold Lib.itoa
  by_cases h0 : v = 0
  · subst h0
    rw [if_neg (by decide), Lib.decDigits, dif_pos (by decide)]
    simp
  · have hd : digs v.natAbs = Lib.decDigits v.natAbs := by unfold digs; rw [if_neg (by omega)]
    rw [hd] at hlen
    by_cases hn : v < 0
    · rw [if_pos hn]; simp; omega
    · rw [if_neg hn, show v.toNat = v.natAbs by omega]
      have := hp v.natAbs
      omega
end Go.Proofs.YtjlbimnafbngaaaDoor.FmtPure
