/- The document's own Parse, and the law OpsParse: true for every text, in a memory that holds the library's table of powers of ten. -/
import Derived.Test.YtpjgdojhdlfjdaaDoorParseWalk
import Derived.Test.YtpjgdojhdlfjdaaDoorFmtPureP
namespace Go.Proofs.YtpjgdojhdlfjdaaDoor.ParseLaw
open Go.RowKit Go.Proofs.YtpjgdojhdlfjdaaDoorW.PrintWords Go.Proofs.YtpjgdojhdlfjdaaDoor.BitMath Go.Proofs.YtpjgdojhdlfjdaaDoor.FormatLaw Go.Proofs.YtpjgdojhdlfjdaaDoor.ParsePure Go.Proofs.YtpjgdojhdlfjdaaDoor.POpsParse

/-- The document's own reading of a text's digits. -/
def acc (a : Int) : List UInt8 → Int
  | [] => a
  | b :: r => if b = 45 then acc a r else acc (wrap64 (10 * a + (b.toNat : Int) - 48)) r
/-- And what it makes of it. -/
noncomputable def fin (l : List UInt8) (y : Int) : Int × Int := if Lib.itoa y = l then (y, 0) else (0, 4)

theorem acc_in (l : List UInt8) : ∀ a, In64 a → In64 (acc a l) := by
  induction l with
  | nil => intro a h; exact h
  | cons b r ih =>
    intro a h
    unfold acc
    split
    · exact ih a h
    · exact ih _ (in64_wrap _)
theorem acc_vs (l : List UInt8) (hl : ∀ b ∈ l, Dig b) : ∀ a, acc (wrap64 a) l = wrap64 (vs l a) := by
  induction l with
  | nil => intro a; rfl
  | cons b r ih =>
    intro a
    have hb := hl b (by simp)
    unfold acc
    rw [if_neg (fun e => by subst e; exact absurd hb.1 (by decide))]
    have e : wrap64 (10 * wrap64 a + (b.toNat : Int) - 48) = wrap64 (a * 10 + ((b.toNat : Int) - 48)) := by unfold wrap64; omega
    rw [e, ih (fun c hc => hl c (by simp [hc]))]
    rfl

theorem ref_j (s : ByteArray) (v : Int) (hv : In64 v) (flag : Bool) (k : Nat) (hk : 21 ≤ k) : plunderref1_Parse.j1 k s v flag = some (fin s.data.toList (if flag then wrap64 (-v) else v)) := by
  obtain ⟨k, rfl⟩ : ∃ m, k = m + 1 := ⟨k - 1, by omega⟩
  unfold plunderref1_Parse.j1 fin
  cases flag
  · simp only [Bool.false_eq_true, if_false]
    rw [FmtPureP.format_f v hv k (by omega), Option.bind_some]
    by_cases h : Lib.itoa v = s.data.toList
    · rw [if_pos ((str_eq v s).2 h), if_pos h]
    · rw [if_neg (fun e => h ((str_eq v s).1 e)), if_neg h]
  · simp only [if_true]
    rw [FmtPureP.format_f _ (in64_wrap _) k (by omega), Option.bind_some]
    by_cases h : Lib.itoa (wrap64 (-v)) = s.data.toList
    · rw [if_pos ((str_eq _ s).2 h), if_pos h]
    · rw [if_neg (fun e => h ((str_eq _ s).1 e)), if_neg h]

theorem bt_at' (s : ByteArray) (i : Nat) (h : i < s.size) : bt s (i : Int) = (s[i].toNat : Int) := by
  unfold bt
  rw [dif_pos (by simpa using h)]
  simp
theorem drop_cons (s : ByteArray) (p : Nat) (h : p < s.size) : s.data.toList.drop p = s[p] :: s.data.toList.drop (p + 1) := by
  rw [List.drop_eq_getElem_cons (by rw [size_len]; exact h)]; rfl

/-- Is there a sign ahead? -/
def flagOf (s : ByteArray) : Bool := decide (s.data.toList.head? = some 45)
theorem flag_eq (s : ByteArray) (h : 0 < s.size) : (bt s 0 == 45) = flagOf s := by
  have h1 := bt_at' s 0 h
  have h2 := drop_cons s 0 h
  rw [List.drop_zero] at h2
  rw [show (0 : Int) = ((0 : Nat) : Int) from rfl, h1]
  unfold flagOf
  rw [h2, List.head?_cons, Bool.eq_iff_iff]
  simp only [beq_iff_eq, decide_eq_true_eq, Option.some.injEq]
  constructor
  · intro e; exact UInt8.toNat_inj.1 (by show _ = 45; omega)
  · intro e; rw [e]; rfl

theorem ref_loop (s : ByteArray) (hs : s.size ≤ 20) (d : Nat) : ∀ (i k : Nat) (a : Int), i + d = s.size → d + 21 < k → In64 a →
    plunderref1_Parse.l0 k s a (i : Int) = some (fin s.data.toList (if flagOf s then wrap64 (-(acc a (s.data.toList.drop i))) else acc a (s.data.toList.drop i))) := by
  induction d with
  | zero =>
    intro i k a hi hk ha
    obtain ⟨k, rfl⟩ : ∃ m, k = m + 1 := ⟨k - 1, by omega⟩
    simp only [plunderref1_Parse.l0]
    rw [if_neg (by omega), List.drop_eq_nil_of_le (by rw [size_len]; omega)]
    by_cases h0 : 0 < s.size
    · rw [if_pos (by omega), if_pos (by omega), flag_eq s h0, ref_j s a ha _ k (by omega)]
      rfl
    · have hl : s.data.toList = [] := List.eq_nil_of_length_eq_zero (by rw [size_len]; omega)
      have hf : flagOf s = false := by unfold flagOf; rw [hl]; rfl
      rw [if_neg (by omega), ref_j s a ha _ k (by omega), hf]
      rfl
  | succ d ih =>
    intro i k a hi hk ha
    obtain ⟨k, rfl⟩ : ∃ m, k = m + 1 := ⟨k - 1, by omega⟩
    have hlt : i < s.size := by omega
    simp only [plunderref1_Parse.l0]
    rw [if_pos (by omega), if_pos (by omega), bt_at' s i hlt, drop_cons s i hlt, wrap_id (a := (i : Int) + 1) (by unfold In64; omega)]
    unfold acc
    by_cases hb : s[i] = 45
    · rw [if_pos (by rw [hb]; rfl), if_pos hb]
      exact ih (i + 1) k a (by omega) (by omega) ha
    · have hne : ¬ ((s[i].toNat : Int) = 45) := fun e => hb (UInt8.toNat_inj.1 (by show _ = 45; omega))
      rw [if_neg hne, if_neg hb]
      have e : wrap64 (wrap64 (wrap64 (10 * a) + wrap64 (s[i].toNat : Int)) - 48) = wrap64 (10 * a + (s[i].toNat : Int) - 48) := by unfold wrap64; omega
      rw [e]
      exact ih (i + 1) k _ (by omega) (by omega) (in64_wrap _)

theorem ref_parse (s : ByteArray) : ∃ r1 r2, plunderref1_Parse.f (s.size + 22) s = some (r1, r2) ∧ IsParse s.data.toList (r1, r2) := by
  unfold plunderref1_Parse.f
  by_cases h : (s.size : Int) > 20
  · rw [if_pos h]
    exact ⟨0, 2, rfl, .inl ⟨by rw [size_len]; omega, rfl⟩⟩
  · rw [if_neg h]
    have hs : s.size ≤ 20 := by omega
    have e := ref_loop s hs s.size 0 (s.size + 22) 0 (by omega) (by omega) (by unfold In64; omega)
    rw [show ((0 : Nat) : Int) = 0 from rfl, List.drop_zero] at e
    rw [e]
    have fold_ : ∀ q : Int × Int, IsParse s.data.toList q → ∃ r1 r2, some q = some (r1, r2) ∧ IsParse s.data.toList (r1, r2) := fun q h => ⟨q.1, q.2, rfl, h⟩
    refine fold_ _ ?_
    have hl : s.data.toList.length ≤ 20 := by rw [size_len]; exact hs
    have w0 : wrap64 0 = 0 := by decide +kernel
    have hu : ∀ x, In64 x → Lib.itoa x = s.data.toList → x = (if flagOf s then wrap64 (-(acc 0 s.data.toList)) else acc 0 s.data.toList) := by
      intro x hx he
      rcases itoa_val he with ⟨h1, h2, h3, h4, h5⟩ | ⟨h1, h2, h3, h4, h5⟩
      · have hf : flagOf s = true := by unfold flagOf; exact decide_eq_true h1
        rw [hf, if_pos rfl]
        generalize s.data.toList = l at *
        cases l with
        | nil => simp at h1
        | cons b r =>
          simp at h1
          subst h1
          have e2 := acc_vs r h3 0
          rw [w0] at e2
          have e3 : acc 0 (45 :: r) = acc 0 r := by rw [acc, if_pos rfl]
          rw [e3, e2, show vs r 0 = -x from h5]
          unfold In64 at hx
          unfold wrap64
          omega
      · have hf : flagOf s = false := by unfold flagOf; exact decide_eq_false h1
        rw [hf]
        have e2 := acc_vs s.data.toList h3 0
        rw [w0, h5, wrap_id hx] at e2
        simp [e2]
    have hin : In64 (if flagOf s then wrap64 (-(acc 0 s.data.toList)) else acc 0 s.data.toList) := by
      split
      · exact in64_wrap _
      · exact acc_in _ _ (by unfold In64; omega)
    generalize (if flagOf s then wrap64 (-(acc 0 s.data.toList)) else acc 0 s.data.toList) = y at *
    unfold fin
    by_cases hy : Lib.itoa y = s.data.toList
    · rw [if_pos hy]; exact .inr (.inl ⟨hl, y, hin, hy, rfl⟩)
    · rw [if_neg hy]; exact .inr (.inr ⟨hl, fun x hx he => hy (hu x hx he ▸ he), rfl⟩)

set_option maxHeartbeats 400000 in
theorem walk (s : ByteArray) (hs : s.size ≤ 9223372036854775807) (w : World) (hT : PowAt w) :
    Calls Tryd.prog 11 #[.string s] w fun e w' => e = .returned (.bool true) ∧ Below w.heap.size w w' := by
  obtain ⟨r1, r2, hr, hP⟩ := ref_parse s
  have HC := Aside0.mk (parse_calls s w hs hT)
  have HF := Aside0.mk hr
  have HP := Aside0.mk hP
  clear hs hT hr hP
  go_enter Tryd.func11, Tryd.ntmps11
  go_wp2_with fail
  refine HC.out.mono ?_
  rintro e w1 ⟨⟨q1, q2, rfl, hq⟩, hb⟩
  have HE := Aside0.mk (hq.one HP.out)
  have HB := Aside0.mk hb
  clear hb hq HC
  go_wp2_with fail
  refine (plunderref1_Parse.calls _ s r1 r2 w1 HF.out).mono ?_
  rintro e w2 ⟨rfl, hd⟩
  have HB2 := Aside0.mk (below_step HB.out (by first | exact hd | exact hd.below))
  clear hd HB
  have he := HE.out
  simp only [Prod.mk.injEq] at he
  obtain ⟨rfl, rfl⟩ := he
  go_wp2
  go_ret
  exact ⟨by simp, HB2.out⟩
end Go.Proofs.YtpjgdojhdlfjdaaDoor.ParseLaw
