/- The document's own Parse, and the law OpsParse: true for every text, in a memory that holds the library's table of powers of ten. -/
import Derived.Test.YtjlbimnafbngaaaDoorBitMath
import Derived.Test.YtjlbimnafbngaaaDoorPScriptDecodex3
import Derived.Lib.ItoaNum
import Derived.Test.YtjlbimnafbngaaaDoorParseWalk
import Derived.Test.YtjlbimnafbngaaaDoorRefParse
namespace Go.Proofs.YtjlbimnafbngaaaDoor.FmtPureP
open Go.RowKit Go.Proofs.YtjlbimnafbngaaaDoorW.PrintWords Go.Proofs.YtjlbimnafbngaaaDoor.BitMath Go.Proofs.YtjlbimnafbngaaaDoor.PScriptDecode

/-- The digits of u, none for 0. -/
def digs (u : Nat) : List UInt8 := if u = 0 then [] else Lib.decDigits u
theorem digs_step (u : Nat) (h : 0 < u) : digs u = digs (u / 10) ++ [UInt8.ofNat (48 + u % 10)] := by
  unfold digs
  rw [if_neg (by omega)]
  by_cases h1 : u < 10
  · rw [Lib.decDigits, dif_pos h1, if_pos (by omega), Nat.mod_eq_of_lt h1]; rfl
  · rw [Lib.decDigits, dif_neg h1, if_neg (by omega)]
theorem digs_len (k : Nat) : ∀ u, u < 10 ^ k → (digs u).length ≤ k := by
  induction k with
  | zero => intro u h; have : u = 0 := by simpa using h
            subst this; simp [digs]
  | succ k ih =>
    intro u h
    by_cases h0 : u = 0
    · subst h0; simp [digs]
    · rw [digs_step u (by omega), List.length_append]
      have := ih (u / 10) (by rw [Nat.pow_succ] at h; omega)
      simp
      omega

theorem ba_append (a b : List UInt8) : (⟨a.toArray⟩ : ByteArray) ++ ⟨b.toArray⟩ = ⟨(a ++ b).toArray⟩ := by
  apply ByteArray.ext
  simp [ByteArray.data_append]
theorem str_one (x : Int) : strOfNums [x] = ⟨[UInt8.ofNat x.toNat].toArray⟩ := by
  unfold strOfNums
  simp
theorem byte_of (d : Nat) (h : d < 10) : (wrap64 (48 + (d : Int))) % 256 = ((48 + d : Nat) : Int) := by
  rw [wrap_id (by unfold In64; omega)]
  omega

theorem digits_f (k : Nat) : ∀ v : Int, In64 v → v.natAbs < 10 ^ k → k ≤ 40 → plunderref1_digits.f (k + 1) v = some ⟨(digs v.natAbs).toArray⟩ := by
  induction k with
  | zero =>
    intro v _ h _
    have : v = 0 := by simp at h; omega
    subst this
    simp [plunderref1_digits.f, digs]
  | succ k ih =>
    intro v hv h hk
    by_cases h0 : v = 0
    · subst h0; simp [plunderref1_digits.f, digs]
    · have hin := tdiv_in (b := 10) hv (by decide)
      have hq : (v.tdiv 10).natAbs = v.natAbs / 10 := by rw [Int.natAbs_tdiv]; rfl
      have hr : (v.tmod 10).natAbs = v.natAbs % 10 := by rw [Int.natAbs_tmod]; rfl
      have hl : v.natAbs / 10 < 10 ^ k := by rw [Nat.pow_succ] at h; omega
      have e := ih (v.tdiv 10) hin (by rw [hq]; exact hl) (by omega)
      rw [hq] at e
      have hlen := digs_len k _ hl
      have hd := digs_step v.natAbs (by omega)
      have hm : v.natAbs % 10 < 10 := Nat.mod_lt _ (by decide)
      rw [plunderref1_digits.f, if_neg h0, wrap_id hin, e]
      simp only [Option.bind_some]
      have fin : ∀ x : Int, x = ((48 + v.natAbs % 10 : Nat) : Int) → (if (⟨(digs (v.natAbs / 10)).toArray⟩ : ByteArray).size + (strOfNums [x]).size ≤ 9223372036854775807 then some ((⟨(digs (v.natAbs / 10)).toArray⟩ : ByteArray) ++ strOfNums [x]) else none) = some ⟨(digs v.natAbs).toArray⟩ := by
        rintro x rfl
        rw [str_one, Int.toNat_natCast, if_pos, ba_append, hd]
        show (digs (v.natAbs / 10)).toArray.size + [UInt8.ofNat (48 + v.natAbs % 10)].toArray.size ≤ _
        simp
        omega
      by_cases hn : v.tmod 10 < 0
      · rw [if_pos hn]
        apply fin
        have e1 : wrap64 (-(v.tmod 10)) = ((v.natAbs % 10 : Nat) : Int) := by rw [wrap_id (by unfold In64; omega)]; omega
        rw [e1, byte_of _ hm]
      · rw [if_neg hn]
        apply fin
        have e1 : v.tmod 10 = ((v.natAbs % 10 : Nat) : Int) := by omega
        rw [e1, byte_of _ hm]

theorem format_f (v : Int) (hv : In64 v) (k : Nat) (hk : 20 ≤ k) : plunderref1_Format.f k v = some ⟨(Lib.itoa v).toArray⟩ := by
  have hb : v.natAbs < 10 ^ 19 := by unfold In64 at hv; omega
  have hlen := digs_len 19 _ hb
  have e := at_rounds (fun n => plunderref1_digits.mono v n) hk (digits_f 19 v hv hb (by omega))
  unfold plunderref1_Format.f Lib.itoa
  by_cases h0 : v = 0
  · subst h0
    rw [if_pos rfl, if_neg (by decide), Lib.decDigits, dif_pos (by decide)]
    rfl
  · have hd : digs v.natAbs = Lib.decDigits v.natAbs := by unfold digs; rw [if_neg (by omega)]
    rw [if_neg h0, e]
    simp only [Option.bind_some]
    by_cases hn : v < 0
    · rw [if_pos hn, if_pos hn, if_pos, ← hd]
      · exact congrArg some (ba_append [45] _)
      · show 1 + (digs v.natAbs).toArray.size ≤ _
        simp
        omega
    · rw [if_neg hn, if_neg hn, show v.toNat = v.natAbs by omega, hd]

/-- How long a numeral is. -/
theorem itoa_len (v : Int) (hv : In64 v) : 1 ≤ (Lib.itoa v).length ∧ (Lib.itoa v).length ≤ 20 := by
  have hb : v.natAbs < 10 ^ 19 := by unfold In64 at hv; omega
  have hlen := digs_len 19 _ hb
  have hp : ∀ u : Nat, 1 ≤ (Lib.decDigits u).length := by
    intro u
    rw [Lib.decDigits]
    split <;> simp
  unfold Lib.itoa
  by_cases h0 : v = 0
  · subst h0
    rw [if_neg (by decide), Lib.decDigits, dif_pos (by decide)]
    simp
  · have hd : digs v.natAbs = Lib.decDigits v.natAbs := by unfold digs; rw [if_neg (by omega)]
    rw [hd] at hlen
    by_cases hn : v < 0
    · rw [if_pos hn]; simp; omega
    · rw [if_neg hn, show v.toNat = v.natAbs by omega]
      have := hp v.natAbs
      omega
end Go.Proofs.YtjlbimnafbngaaaDoor.FmtPureP
namespace Go.Proofs.YtjlbimnafbngaaaDoor.ParseLaw
open Go.RowKit Go.Proofs.YtjlbimnafbngaaaDoorW.PrintWords Go.Proofs.YtjlbimnafbngaaaDoor.BitMath Go.Proofs.YtjlbimnafbngaaaDoor.Fmt Go.Proofs.YtjlbimnafbngaaaDoor.ParsePure Go.Proofs.YtjlbimnafbngaaaDoor.PScriptDecode

/-- The document's own reading of a text's digits. -/
def acc (a : Int) : List UInt8 → Int
  | [] => a
  | b :: r => if b = 45 then acc a r else acc (wrap64 (10 * a + (b.toNat : Int) - 48)) r
/-- And what it makes of it. -/
noncomputable def fin (l : List UInt8) (y : Int) : Int × Int := if Lib.itoa y = l then (y, 0) else (0, 4)

theorem acc_in (l : List UInt8) : ∀ a, In64 a → In64 (acc a l) := by
  induction l with
  | nil => intro a h; exact h
  | cons b r ih =>
    intro a h
    unfold acc
    split
    · exact ih a h
    · exact ih _ (in64_wrap _)
theorem acc_vs (l : List UInt8) (hl : ∀ b ∈ l, Dig b) : ∀ a, acc (wrap64 a) l = wrap64 (vs l a) := by
  induction l with
  | nil => intro a; rfl
  | cons b r ih =>
    intro a
    have hb := hl b (by simp)
    unfold acc
    rw [if_neg (fun e => by subst e; exact absurd hb.1 (by decide))]
    have e : wrap64 (10 * wrap64 a + (b.toNat : Int) - 48) = wrap64 (a * 10 + ((b.toNat : Int) - 48)) := by unfold wrap64; omega
    rw [e, ih (fun c hc => hl c (by simp [hc]))]
    rfl

theorem ref_j (s : ByteArray) (v : Int) (hv : In64 v) (flag : Bool) (k : Nat) (hk : 21 ≤ k) : plunderref1_Parse.j1 k s v flag = some (fin s.data.toList (if flag then wrap64 (-v) else v)) := by
  obtain ⟨k, rfl⟩ : ∃ m, k = m + 1 := ⟨k - 1, by omega⟩
  unfold plunderref1_Parse.j1 fin
  cases flag
  · simp only [Bool.false_eq_true, if_false]
    rw [FmtPureP.format_f v hv k (by omega), Option.bind_some]
    by_cases h : Lib.itoa v = s.data.toList
    · rw [if_pos ((str_eq v s).2 h), if_pos h]
    · rw [if_neg (fun e => h ((str_eq v s).1 e)), if_neg h]
  · simp only [if_true]
    rw [FmtPureP.format_f _ (in64_wrap _) k (by omega), Option.bind_some]
    by_cases h : Lib.itoa (wrap64 (-v)) = s.data.toList
    · rw [if_pos ((str_eq _ s).2 h), if_pos h]
    · rw [if_neg (fun e => h ((str_eq _ s).1 e)), if_neg h]

theorem bt_at' (s : ByteArray) (i : Nat) (h : i < s.size) : bt s (i : Int) = (s[i].toNat : Int) := by
  unfold bt
  rw [dif_pos (by simpa using h)]
  simp
theorem drop_cons (s : ByteArray) (p : Nat) (h : p < s.size) : s.data.toList.drop p = s[p] :: s.data.toList.drop (p + 1) := by
  rw [List.drop_eq_getElem_cons (by rw [size_len]; exact h)]; rfl

/-- Is there a sign ahead? -/
def flagOf (s : ByteArray) : Bool := decide (s.data.toList.head? = some 45)
theorem flag_eq (s : ByteArray) (h : 0 < s.size) : (bt s 0 == 45) = flagOf s := by
  have h1 := bt_at' s 0 h
  have h2 := drop_cons s 0 h
  rw [List.drop_zero] at h2
  rw [show (0 : Int) = ((0 : Nat) : Int) from rfl, h1]
  unfold flagOf
  rw [h2, List.head?_cons, Bool.eq_iff_iff]
  simp only [beq_iff_eq, decide_eq_true_eq, Option.some.injEq]
  constructor
  · intro e; exact UInt8.toNat_inj.1 (by show _ = 45; omega)
  · intro e; rw [e]; rfl

theorem ref_loop (s : ByteArray) (hs : s.size ≤ 20) (d : Nat) : ∀ (i k : Nat) (a : Int), i + d = s.size → d + 21 < k → In64 a →
    plunderref1_Parse.l0 k s a (i : Int) = some (fin s.data.toList (if flagOf s then wrap64 (-(acc a (s.data.toList.drop i))) else acc a (s.data.toList.drop i))) := by
  induction d with
  | zero =>
    intro i k a hi hk ha
    obtain ⟨k, rfl⟩ : ∃ m, k = m + 1 := ⟨k - 1, by omega⟩
    simp only [plunderref1_Parse.l0]
    rw [if_neg (by omega), List.drop_eq_nil_of_le (by rw [size_len]; omega)]
    by_cases h0 : 0 < s.size
    · rw [if_pos (by omega), if_pos (by omega), flag_eq s h0, ref_j s a ha _ k (by omega)]
      rfl
    · have hl : s.data.toList = [] := List.eq_nil_of_length_eq_zero (by rw [size_len]; omega)
      have hf : flagOf s = false := by unfold flagOf; rw [hl]; rfl
      rw [if_neg (by omega), ref_j s a ha _ k (by omega), hf]
      rfl
  | succ d ih =>
    intro i k a hi hk ha
    obtain ⟨k, rfl⟩ : ∃ m, k = m + 1 := ⟨k - 1, by omega⟩
    have hlt : i < s.size := by omega
    simp only [plunderref1_Parse.l0]
    rw [if_pos (by omega), if_pos (by omega), bt_at' s i hlt, drop_cons s i hlt, wrap_id (a := (i : Int) + 1) (by unfold In64; omega)]
    unfold acc
    by_cases hb : s[i] = 45
    · rw [if_pos (by rw [hb]; rfl), if_pos hb]
      exact ih (i + 1) k a (by omega) (by omega) ha
    · have hne : ¬ ((s[i].toNat : Int) = 45) := fun e => hb (UInt8.toNat_inj.1 (by show _ = 45; omega))
      rw [if_neg hne, if_neg hb]
      have e : wrap64 (wrap64 (wrap64 (10 * a) + wrap64 (s[i].toNat : Int)) - 48) = wrap64 (10 * a + (s[i].toNat : Int) - 48) := by unfold wrap64; omega
      rw [e]
      exact ih (i + 1) k _ (by omega) (by omega) (in64_wrap _)

theorem ref_parse (s : ByteArray) : ∃ r1 r2, plunderref1_Parse.f (s.size + 22) s = some (r1, r2) ∧ IsParse s.data.toList (r1, r2) := by
  unfold plunderref1_Parse.f
  by_cases h : (s.size : Int) > 20
  · rw [if_pos h]
    exact ⟨0, 2, rfl, .inl ⟨by rw [size_len]; omega, rfl⟩⟩
  · rw [if_neg h]
    have hs : s.size ≤ 20 := by omega
    have e := ref_loop s hs s.size 0 (s.size + 22) 0 (by omega) (by omega) (by unfold In64; omega)
    rw [show ((0 : Nat) : Int) = 0 from rfl, List.drop_zero] at e
    rw [e]
    have fold_ : ∀ q : Int × Int, IsParse s.data.toList q → ∃ r1 r2, some q = some (r1, r2) ∧ IsParse s.data.toList (r1, r2) := fun q h => ⟨q.1, q.2, rfl, h⟩
    refine fold_ _ ?_
    have hl : s.data.toList.length ≤ 20 := by rw [size_len]; exact hs
    have w0 : wrap64 0 = 0 := by decide +kernel
    have hu : ∀ x, In64 x → Lib.itoa x = s.data.toList → x = (if flagOf s then wrap64 (-(acc 0 s.data.toList)) else acc 0 s.data.toList) := by
      intro x hx he
      rcases itoa_val he with ⟨h1, h2, h3, h4, h5⟩ | ⟨h1, h2, h3, h4, h5⟩
      · have hf : flagOf s = true := by unfold flagOf; exact decide_eq_true h1
        rw [hf, if_pos rfl]
        generalize s.data.toList = l at *
        cases l with
        | nil => simp at h1
        | cons b r =>
          simp at h1
          subst h1
          have e2 := acc_vs r h3 0
          rw [w0] at e2
          have e3 : acc 0 (45 :: r) = acc 0 r := by rw [acc, if_pos rfl]
          rw [e3, e2, show vs r 0 = -x from h5]
          unfold In64 at hx
          unfold wrap64
          omega
      · have hf : flagOf s = false := by unfold flagOf; exact decide_eq_false h1
        rw [hf]
        have e2 := acc_vs s.data.toList h3 0
        rw [w0, h5, wrap_id hx] at e2
        simp [e2]
    have hin : In64 (if flagOf s then wrap64 (-(acc 0 s.data.toList)) else acc 0 s.data.toList) := by
      split
      · exact in64_wrap _
      · exact acc_in _ _ (by unfold In64; omega)
    generalize (if flagOf s then wrap64 (-(acc 0 s.data.toList)) else acc 0 s.data.toList) = y at *
    unfold fin
    by_cases hy : Lib.itoa y = s.data.toList
    · rw [if_pos hy]; exact .inr (.inl ⟨hl, y, hin, hy, rfl⟩)
    · rw [if_neg hy]; exact .inr (.inr ⟨hl, fun x hx he => hy (hu x hx he ▸ he), rfl⟩)

end Go.Proofs.YtjlbimnafbngaaaDoor.ParseLaw
