/- The text of a script, read: tokens, items, numbers: plain facts. -/
import Derived.Test.YtjlbimnafbngaaaDoorBitMath
import Derived.Lib.ItoaNum
import Derived.Test.YtjlbimnafbngaaaDoorParsePure
import Derived.Test.YtjlbimnafbngaaaDoorPScriptDecodex0
namespace Go.Proofs.YtjlbimnafbngaaaDoor.FmtLen
open Go.RowKit Go.Proofs.YtjlbimnafbngaaaDoor.BitMath
/-- The digits of u, none for 0. -/
def digs (u : Nat) : List UInt8 := if u = 0 then [] else Lib.decDigits u
theorem digs_step (u : Nat) (h : 0 < u) : digs u = digs (u / 10) ++ [UInt8.ofNat (48 + u % 10)] := by
  unfold digs
  rw [if_neg (by omega)]
  by_cases h1 : u < 10
  · rw [Lib.decDigits, dif_pos h1, if_pos (by omega), Nat.mod_eq_of_lt h1]; rfl
  · rw [Lib.decDigits, dif_neg h1, if_neg (by omega)]
theorem digs_len (k : Nat) : ∀ u, u < 10 ^ k → (digs u).length ≤ k := by
  induction k with
  | zero => intro u h; have : u = 0 := by simpa using h
            subst this; simp [digs]
  | succ k ih =>
    intro u h
    by_cases h0 : u = 0
    · subst h0; simp [digs]
    · rw [digs_step u (by omega), List.length_append]
      have := ih (u / 10) (by rw [Nat.pow_succ] at h; omega)
      simp
      omega

/-- How long a numeral is. -/
theorem itoa_len (v : Int) (hv : In64 v) : 1 ≤ (Lib.itoa v).length ∧ (Lib.itoa v).length ≤ 20 := by
  have hb : v.natAbs < 10 ^ 19 := by unfold In64 at hv; omega
  have hlen := digs_len 19 _ hb
  have hp : ∀ u : Nat, 1 ≤ (Lib.decDigits u).length := by
    intro u
    rw [Lib.decDigits]
    split <;> simp
  unfold Lib.itoa
  by_cases h0 : v = 0
  · subst h0
    rw [if_neg (by decide), Lib.decDigits, dif_pos (by decide)]
    simp
  · have hd : digs v.natAbs = Lib.decDigits v.natAbs := by unfold digs; rw [if_neg (by omega)]
    rw [hd] at hlen
    by_cases hn : v < 0
    · rw [if_pos hn]; simp; omega
    · rw [if_neg hn, show v.toNat = v.natAbs by omega]
      have := hp v.natAbs
      omega
end Go.Proofs.YtjlbimnafbngaaaDoor.FmtLen
namespace Go.Proofs.YtjlbimnafbngaaaDoor.Dec
open Go.RowKit Go.Proofs.YtjlbimnafbngaaaDoor.BitMath Go.Proofs.YtjlbimnafbngaaaDoor.ParsePure Go.Proofs.YtjlbimnafbngaaaDoor.PScriptDecode
set_option linter.unusedVariables false
abbrev Bytes := List UInt8
abbrev Tok := Bytes × Nat
def isB (b : UInt8) : Bool := b == 32 || b == 9 || b == 10
def isW (b : UInt8) : Bool := (97 ≤ b.toNat && b.toNat ≤ 122) || (48 ≤ b.toNat && b.toNat ≤ 57) || b == 45
/-- How many bytes ahead meet p. -/
def run (p : UInt8 → Bool) : Bytes → Nat
  | [] => 0
  | b :: l => if p b then run p l + 1 else 0
theorem run_le (p : UInt8 → Bool) (l : Bytes) : run p l ≤ l.length := by
  induction l with
  | nil => simp [run]
  | cons b l ih => unfold run; split <;> simp <;> omega
/-- How long the token is that begins here. -/
def tlen (l : Bytes) : Nat := if l = [] then 0 else if run isW l = 0 then 1 else run isW l
theorem tlen_le (l : Bytes) : tlen l ≤ l.length := by
  unfold tlen
  have := run_le isW l
  split
  · omega
  · split
    · rename_i h _; cases l with
      | nil => exact absurd rfl h
      | cons => simp
    · omega
theorem tlen_pos {l : Bytes} (h : l ≠ []) : 0 < tlen l := by
  unfold tlen
  rw [if_neg h]
  split <;> omega
/-- The tokens, and where each begins. -/
def tksF : Nat → Bytes → Nat → List Tok
  | 0, _, _ => []
  | k + 1, l, p =>
    let r := l.drop (run isB l)
    if r = [] then [] else (r.take (tlen r), p + run isB l) :: tksF k (r.drop (tlen r)) (p + run isB l + tlen r)
theorem tksF_more : ∀ (k : Nat) (l : Bytes) (p m : Nat), l.length < k → tksF (k + m) l p = tksF k l p := by
  intro k
  induction k with
  | zero => intro l p m h; omega
  | succ k ih =>
    intro l p m h
    rw [show k + 1 + m = (k + m) + 1 by omega]
    simp only [tksF]
    split
    · rfl
    · rename_i hr
      rw [ih]
      have h1 := tlen_pos hr
      have h2 : (l.drop (run isB l)).length ≠ 0 := fun h => hr (List.length_eq_zero_iff.1 h)
      rw [List.length_drop] at h2
      rw [List.length_drop, List.length_drop]
      omega
def tks (l : Bytes) (p : Nat) : List Tok := tksF (l.length + 1) l p
theorem tks_eq (l : Bytes) (p : Nat) : tks l p = if l.drop (run isB l) = [] then [] else ((l.drop (run isB l)).take (tlen (l.drop (run isB l))), p + run isB l) :: tks ((l.drop (run isB l)).drop (tlen (l.drop (run isB l)))) (p + run isB l + tlen (l.drop (run isB l))) := by
  conv => lhs; unfold tks; unfold tksF
  dsimp only
  split
  · rfl
  · rename_i hr
    have h1 := tlen_pos hr
    unfold tks
    generalize he : (l.drop (run isB l)).drop (tlen (l.drop (run isB l))) = q
    have hq : q.length + 1 ≤ l.length := by
      rw [← he, List.length_drop, List.length_drop]
      have : (l.drop (run isB l)).length ≠ 0 := fun h => hr (List.length_eq_zero_iff.1 h)
      rw [List.length_drop] at this
      omega
    obtain ⟨m, hm⟩ : ∃ m, l.length = (q.length + 1) + m := ⟨l.length - (q.length + 1), by omega⟩
    rw [hm, tksF_more _ _ _ _ (by omega)]
/-- The reader stands at the first of these tokens (at a, to n, w), or at the text's end. -/
def At (L : Bytes) (ts : List Tok) (a n : Nat) (w : Bytes) : Prop :=
  n ≤ L.length ∧ a ≤ n ∧ w = (L.drop a).take (n - a) ∧ ((ts = [] ∧ a = L.length ∧ w = []) ∨ (∃ r, ts = (w, a) :: r ∧ w ≠ [] ∧ a < L.length)) ∧ tks (L.drop n) n = ts.tail
/-- What advance comes to from n on. -/
theorem at_next (L : Bytes) (n : Nat) (hn : n ≤ L.length) :
    At L (tks (L.drop n) n) (n + run isB (L.drop n)) (n + run isB (L.drop n) + tlen (L.drop (n + run isB (L.drop n)))) ((L.drop (n + run isB (L.drop n))).take (tlen (L.drop (n + run isB (L.drop n))))) := by
  have h1 := run_le isB (L.drop n)
  rw [List.length_drop] at h1
  have h2 := tlen_le (L.drop (n + run isB (L.drop n)))
  rw [List.length_drop] at h2
  have e0 : (L.drop n).drop (run isB (L.drop n)) = L.drop (n + run isB (L.drop n)) := by rw [List.drop_drop]
  refine ⟨by omega, by omega, by congr 1; omega, ?_, ?_⟩
  · rw [tks_eq, e0]
    by_cases hr : L.drop (n + run isB (L.drop n)) = []
    · rw [if_pos hr]
      left
      refine ⟨rfl, ?_, by rw [hr]; simp⟩
      have := List.drop_eq_nil_iff.1 hr
      omega
    · rw [if_neg hr]
      right
      refine ⟨_, rfl, ?_, ?_⟩
      · have h3 := tlen_pos hr
        intro e
        have := congrArg List.length e
        rw [List.length_take, List.length_drop, List.length_nil] at this
        omega
      · apply Classical.byContradiction
        intro h
        exact hr (List.drop_eq_nil_of_le (by omega))
  · rw [tks_eq (L.drop n) n, e0]
    by_cases hr : L.drop (n + run isB (L.drop n)) = []
    · rw [if_pos hr, tks_eq]
      have e := List.drop_eq_nil_iff.1 hr
      have : L.drop (n + run isB (L.drop n) + tlen (L.drop (n + run isB (L.drop n)))) = [] := List.drop_eq_nil_of_le (by omega)
      rw [this]
      simp [run]
    · rw [if_neg hr, List.tail_cons, List.drop_drop]
theorem At.le {L : Bytes} {ts : List Tok} {a n : Nat} {w : Bytes} (h : At L ts a n w) : n ≤ L.length := h.1
theorem At.word {L : Bytes} {ts : List Tok} {a n : Nat} {w : Bytes} (h : At L ts a n w) : w = (ts.head?.map (·.1)).getD [] := by
  rcases h.2.2.2.1 with ⟨rfl, _, rfl⟩ | ⟨r, rfl, _, _⟩ <;> rfl
theorem At.pos {L : Bytes} {ts : List Tok} {a n : Nat} {w : Bytes} (h : At L ts a n w) : a = (ts.head?.map (·.2)).getD L.length := by
  rcases h.2.2.2.1 with ⟨rfl, ha, rfl⟩ | ⟨r, rfl, _, _⟩
  · exact ha
  · rfl
theorem At.nil {L : Bytes} {ts : List Tok} {a n : Nat} {w : Bytes} (h : At L ts a n w) : a < L.length ↔ ts ≠ [] := by
  rcases h.2.2.2.1 with ⟨rfl, ha, rfl⟩ | ⟨r, rfl, _, hl⟩
  · simp; omega
  · simp; exact hl
/-- A token's text, and where the first token begins (or the text ends). -/
def wd (ts : List Tok) : Bytes := (ts.head?.map (·.1)).getD []
def ps (E : Nat) (ts : List Tok) : Nat := (ts.head?.map (·.2)).getD E
open Classical in
/-- The number that a token tells. -/
noncomputable def numOf (w : Bytes) : Option Int := if h : ∃ x, In64 x ∧ Lib.itoa x = w then some (Classical.choose h) else none
theorem numOf_some {w : Bytes} {x : Int} : numOf w = some x ↔ In64 x ∧ Lib.itoa x = w := by
  unfold numOf
  constructor
  · intro h
    split at h
    · rename_i hh
      have := Classical.choose_spec hh
      injection h with h
      rw [h] at this
      exact this
    · cases h
  · rintro ⟨hx, hw⟩
    have hh : ∃ x, In64 x ∧ Lib.itoa x = w := ⟨x, hx, hw⟩
    rw [dif_pos hh]
    have := Classical.choose_spec hh
    congr 1
    exact itoa_one (this.2.trans hw.symm)
theorem numOf_none {w : Bytes} : numOf w = none ↔ ∀ x, In64 x → Lib.itoa x ≠ w := by
  unfold numOf
  constructor
  · intro h x hx hw
    rw [dif_pos ⟨x, hx, hw⟩] at h
    cases h
  · intro h
    rw [dif_neg]
    rintro ⟨x, hx, hw⟩
    exact h x hx hw
/-- What ops.Parse tells of a token. -/
theorem parse_num {w : Bytes} {r1 r2 : Int} (h : IsParse w (r1, r2)) : (r2 = 0 ↔ numOf w = some r1) ∧ (r2 ≠ 0 ↔ numOf w = none) := by
  have key : (r2 = 0 ∧ numOf w = some r1) ∨ (r2 ≠ 0 ∧ numOf w = none) := by
    rcases h with ⟨hl, he⟩ | ⟨hl, x, hx, hw, he⟩ | ⟨hl, hno, he⟩
    · injection he with e1 e2
      right
      refine ⟨by omega, numOf_none.2 fun x hx hw => ?_⟩
      have := FmtLen.itoa_len x hx
      rw [hw] at this
      omega
    · injection he with e1 e2
      left
      exact ⟨e2, by rw [e1]; exact numOf_some.2 ⟨hx, hw⟩⟩
    · injection he with e1 e2
      right
      exact ⟨by omega, numOf_none.2 hno⟩
  rcases key with ⟨a, b⟩ | ⟨a, b⟩
  · exact ⟨⟨fun _ => b, fun _ => a⟩, ⟨fun c => absurd a c, fun c => by rw [b] at c; cases c⟩⟩
  · exact ⟨⟨fun c => absurd c a, fun c => by rw [b] at c; cases c⟩, ⟨fun _ => b, fun _ => a⟩⟩
end Go.Proofs.YtjlbimnafbngaaaDoor.Dec
