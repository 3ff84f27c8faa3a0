/- The reader of a script's text: where it fails, what it needs, numbers. -/
import Derived.Test.YtjlbimnafbngaaaDoorDecRd
import Derived.WalkLawsBesides
namespace Go.Proofs.YtjlbimnafbngaaaDoor.Dec
open Go.RowKit Go.Proofs.YtjlbimnafbngaaaDoorW.PrintWords Go.Proofs.YtjlbimnafbngaaaDoorW.PrintLast Go.Proofs.YtjlbimnafbngaaaDoorW.PrintMore Go.Proofs.YtjlbimnafbngaaaDoor.BitMath Go.Proofs.YtjlbimnafbngaaaDoor.ParsePure Go.Proofs.YtjlbimnafbngaaaDoor.PScriptDecode Go.Proofs.YtjlbimnafbngaaaDoor.Fmt
open Go.Proofs.YtjlbimnafbngaaaDoor.ParseLaw (parse_calls size_len)
set_option linter.unusedVariables false
set_option linter.unusedSimpArgs false
/-- The reader stands at the first of these tokens. -/
def Rd (w : World) (gr : Nat) (T : ByteArray) (ts : List Tok) : Prop := ∃ a n V, RdAt w gr T a n V ∧ At T.data.toList ts a n V.data.toList
/-- What is thrown at a place. -/
def thrown (p : Nat) : Ending := .panicked [{ v := .iface 52 (.int .i64 (p : Int)), recovered := false }]
set_option maxHeartbeats 1000000 in
set_option maxRecDepth 100000 in
theorem fail_calls {w : World} {gr : Nat} {T : ByteArray} {ts : List Tok} (h : Rd w gr T ts) :
    Calls Tryd.prog 25 #[.pointer (some ⟨gr, 0, none⟩)] w fun e w' => e = thrown (ps T.size ts) ∧ w' = w := by
  obtain ⟨a, n, V, hR, hA⟩ := h
  have hp := hA.pos
  rw [size_len] at hp
  have e : ps T.size ts = a := hp.symm
  rw [e]
  have z1 := hR.z1
  clear hR hA hp e
  go_enter Tryd.func25, Tryd.ntmps25
  go_wp2
  exact ⟨rfl, rfl, rfl⟩
theorem RdAt.keep {w w' : World} {gr : Nat} {T : ByteArray} {a n : Nat} {V : ByteArray} (h : RdAt w gr T a n V) (hb : Below w.heap.size w w') : RdAt w' gr T a n V := blk_below h hb
theorem Rd.keep {w w' : World} {gr : Nat} {T : ByteArray} {ts : List Tok} (h : Rd w gr T ts) (hb : Below w.heap.size w w') : Rd w' gr T ts := by
  obtain ⟨a, n, V, hR, hA⟩ := h
  exact ⟨a, n, V, hR.keep hb, hA⟩
/-- The reader goes on to the next token. -/
theorem next_calls {w : World} {gr : Nat} {T : ByteArray} {ts : List Tok} (hT : T.size ≤ 65536) (h : Rd w gr T ts) :
    Calls Tryd.prog 22 #[.pointer (some ⟨gr, 0, none⟩)] w fun e w' => e = .returned (.tuple #[]) ∧ Rd w' gr T ts.tail ∧ Kb w w' gr := by
  obtain ⟨a, n, V, hR, hA⟩ := h
  refine (advance_calls T hT gr w a n V hR (by have := hA.le; rw [size_len] at this; exact this)).mono ?_
  rintro e w' ⟨rfl, a', n', V', h1, h2, h3⟩
  rw [hA.2.2.2.2] at h2
  exact ⟨rfl, ⟨a', n', V', h1, h2⟩, h3⟩
theorem bytes_eq (a b : ByteArray) : (a.toList == b.toList) = (a.data.toList == b.data.toList) := by
  rw [Go.ByteArray.toList_eq, Go.ByteArray.toList_eq]
set_option maxHeartbeats 1000000 in
set_option maxRecDepth 100000 in
theorem need_calls {w : World} {gr : Nat} {T : ByteArray} {ts : List Tok} (word : ByteArray) (hT : T.size ≤ 65536) (h : Rd w gr T ts) :
    Calls Tryd.prog 23 #[.pointer (some ⟨gr, 0, none⟩), .string word] w fun e w' => Kb w w' gr ∧ ((wd ts = word.data.toList ∧ e = .returned (.tuple #[]) ∧ Rd w' gr T ts.tail) ∨ (wd ts ≠ word.data.toList ∧ e = thrown (ps T.size ts))) := by
  have HT := Aside0.mk hT
  have HR := Aside0.mk h
  obtain ⟨a, n, V, hR, hA⟩ := h
  have hw := hA.word
  have z3 := hR.z3
  have e0 : wd ts = V.data.toList := hw.symm
  rw [e0]
  have hb := bytes_eq V word
  clear hR hA hw e0 hT
  by_cases he : V.data.toList = word.data.toList
  · have e1 : (V.toList == word.toList) = true := by rw [hb]; simpa using he
    have e2 : (V.toList != word.toList) = false := by rw [bne, e1]; rfl
    have HE := Aside0.mk he
    clear hb he
    go_enter Tryd.func23, Tryd.ntmps23
    go_wp2_with fail
    refine (next_calls HT.out HR.out).mono ?_
    rintro e w1 ⟨rfl, h1, hk⟩
    have H1 := Aside0.mk h1
    have HK := Aside0.mk hk
    clear h1 hk
    go_wp2
    go_end0
    exact ⟨HK.out, .inl ⟨HE.out, rfl, H1.out⟩⟩
  · have e1 : (V.toList == word.toList) = false := by rw [hb]; simpa using he
    have e2 : (V.toList != word.toList) = true := by rw [bne, e1]; rfl
    have HE := Aside0.mk he
    clear hb he
    go_enter Tryd.func23, Tryd.ntmps23
    go_wp2_with fail
    refine (fail_calls HR.out).mono ?_
    rintro e w1 ⟨rfl, rfl⟩
    unfold thrown
    go_wp2
    exact ⟨rfl, Kb.refl _ _, .inr ⟨HE.out, rfl⟩⟩
set_option maxHeartbeats 1000000 in
set_option maxRecDepth 100000 in
theorem number_calls {w : World} {gr : Nat} {T : ByteArray} {ts : List Tok} (hT : T.size ≤ 65536) (hP : PowAt w) (h : Rd w gr T ts) :
    Calls Tryd.prog 35 #[.pointer (some ⟨gr, 0, none⟩)] w fun e w' => Below w.heap.size w w' ∧ ∃ (v : Int) (ok : Bool), e = .returned (.tuple #[.int .i64 v, .bool ok]) ∧ ((ok = true ∧ numOf (wd ts) = some v) ∨ (ok = false ∧ numOf (wd ts) = none)) := by
  obtain ⟨a, n, V, hR, hA⟩ := h
  have hw := hA.word
  have z3 := hR.z3
  have e0 : wd ts = V.data.toList := hw.symm
  rw [e0]
  have hs : V.size ≤ 9223372036854775807 := by
    rw [← size_len, hA.2.2.1, List.length_take, List.length_drop, size_len]
    omega
  have HP := Aside0.mk hP
  have HS := Aside0.mk hs
  clear hR hA hw e0 hT hP hs
  go_enter Tryd.func35, Tryd.ntmps35
  go_wp2_with fail
  refine (parse_calls V w HS.out HP.out).mono ?_
  rintro e w1 ⟨⟨r1, r2, rfl, hq⟩, hb⟩
  have HB := Aside0.mk hb
  have HQ := Aside0.mk (parse_num hq)
  clear hb hq
  by_cases h0 : r2 = 0
  · subst h0
    go_wp2
    go_ret2
    exact ⟨HB.out, _, _, rfl, .inl ⟨rfl, by have := HQ.out.1; simpa using this⟩⟩
  · have h1 : (r2 == 0) = false := beq_eq_false_iff_ne.mpr h0
    go_wp2
    go_ret2
    refine ⟨HB.out, _, _, rfl, .inr ⟨by first | rfl | exact h1, HQ.out.2.1 h0⟩⟩
end Go.Proofs.YtjlbimnafbngaaaDoor.Dec
