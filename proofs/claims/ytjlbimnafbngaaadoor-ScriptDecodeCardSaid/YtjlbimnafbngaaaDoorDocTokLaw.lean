/- The document's tokens are the tokens told: plain facts. -/
import Derived.Test.YtjlbimnafbngaaaDoorDecPure
import Derived.Test.YtjlbimnafbngaaaDoorDocTok
namespace Go.Proofs.YtjlbimnafbngaaaDoor.Dec
open Go.RowKit Go.Proofs.YtjlbimnafbngaaaDoorW.PrintWords Go.Proofs.YtjlbimnafbngaaaDoor.BitMath Go.Proofs.YtjlbimnafbngaaaDoor.ParsePure Go.Proofs.YtjlbimnafbngaaaDoor.PScriptDecode
set_option linter.unusedVariables false
set_option linter.unusedSimpArgs false
def tokS (t : Tok) : S72 := ⟨⟨t.1.toArray⟩, (t.2 : Int)⟩
theorem blank_f (b : UInt8) : plunderref10_blank.f (b.toNat : Int) = some (isB b) := by
  have h : ∀ n : Fin 256, plunderref10_blank.f ((UInt8.ofNat n.val).toNat : Int) = some (isB (UInt8.ofNat n.val)) := by decide +kernel
  have := h ⟨b.toNat, b.toNat_lt⟩
  simpa using this
theorem word_f (b : UInt8) : plunderref10_word.f (b.toNat : Int) = some (isW b) := by
  have h : ∀ n : Fin 256, plunderref10_word.f ((UInt8.ofNat n.val).toNat : Int) = some (isW (UInt8.ofNat n.val)) := by decide +kernel
  have := h ⟨b.toNat, b.toNat_lt⟩
  simpa using this
theorem doc_tks_blank (b : UInt8) (l : Bytes) (p : Nat) (h : isB b = true) : tks (b :: l) p = tks l (p + 1) := by
  have e : run isB (b :: l) = run isB l + 1 := by simp [run, h]
  rw [tks_eq (b :: l), tks_eq l, e, List.drop_succ_cons, show p + (run isB l + 1) = p + 1 + run isB l by omega]
theorem tks_one (b : UInt8) (l : Bytes) (p : Nat) (h : isB b = false) (hw : isW b = false) : tks (b :: l) p = ([b], p) :: tks l (p + 1) := by
  have e : run isB (b :: l) = 0 := by simp [run, h]
  have e2 : run isW (b :: l) = 0 := by simp [run, hw]
  have e3 : tlen (b :: l) = 1 := by simp [tlen, e2]
  rw [tks_eq (b :: l), e, List.drop_zero, if_neg (by simp), e3]
  simp
theorem doc_tks_word (b : UInt8) (l : Bytes) (p : Nat) (h : isB b = false) (hw : isW b = true) : tks (b :: l) p = (b :: l.take (run isW l), p) :: tks (l.drop (run isW l)) (p + 1 + run isW l) := by
  have e : run isB (b :: l) = 0 := by simp [run, h]
  have e2 : run isW (b :: l) = run isW l + 1 := by simp [run, hw]
  have e3 : tlen (b :: l) = run isW l + 1 := by simp [tlen, e2]
  rw [tks_eq (b :: l), e, List.drop_zero, if_neg (by simp), e3]
  simp only [List.take_succ_cons, List.drop_succ_cons, Nat.add_zero]
  rw [show p + (run isW l + 1) = p + 1 + run isW l by omega]
theorem tks_nil (p : Nat) : tks [] p = [] := by
  rw [tks_eq]; simp [run]
theorem bt_lt (T : ByteArray) (p : Nat) (h : p < T.size) : bt T (p : Int) = ((T[p]).toNat : Int) := by
  simp [bt, h]
theorem drop_lt (T : ByteArray) (p : Nat) (h : p < T.size) : T.data.toList.drop p = T[p] :: T.data.toList.drop (p + 1) := by
  have h2 : p < T.data.toList.length := by simpa using h
  rw [List.drop_eq_getElem_cons h2]
  rfl
theorem ext_tok (T : ByteArray) (a m : Nat) : T.extract a m = ⟨((T.data.toList.drop a).take (m - a)).toArray⟩ := by
  apply ByteArray.ext
  apply Array.toList_inj.1
  rw [ByteArray.data_extract, Array.toList_extract, List.extract_eq_take_drop]
theorem tokens_l (T : ByteArray) (hT : T.size ≤ 65536) : ∀ (d k : Nat),
    (∀ (acc : List S72) (p : Nat), 2 * (T.size - p) + 1 ≤ d → p ≤ T.size → acc.length ≤ p → d ≤ k → plunderref10_Tokens.l0 k T acc (p : Int) = some (acc ++ (tks (T.data.toList.drop p) p).map tokS)) ∧
    (∀ (acc : List S72) (s q : Nat), 2 * (T.size - q) + 2 ≤ d → s < q → q ≤ T.size → acc.length ≤ s → d ≤ k → plunderref10_Tokens.l1 k T acc (q : Int) (s : Int) = some (acc ++ tokS ((T.data.toList.drop s).take (q - s) ++ (T.data.toList.drop q).take (run isW (T.data.toList.drop q)), s) :: (tks (T.data.toList.drop (q + run isW (T.data.toList.drop q))) (q + run isW (T.data.toList.drop q))).map tokS)) := by
  intro d
  induction d with
  | zero => intro k; exact ⟨fun acc p h => by omega, fun acc s q h => by omega⟩
  | succ d ih =>
    intro k
    cases k with
    | zero => exact ⟨fun acc p h _ _ hk => by omega, fun acc s q h _ _ _ hk => by omega⟩
    | succ k =>
      obtain ⟨ih0, ih1⟩ := ih k
      have hl : T.data.toList.length = T.size := by simp
      refine ⟨?_, ?_⟩
      · intro acc p hd hp ha hk
        rw [plunderref10_Tokens.l0]
        by_cases hc : p < T.size
        · rw [if_pos (show (p : Int) < (T.size : Int) by omega), if_pos (show (0 : Int) ≤ (p : Int) by omega), bt_lt T p hc, blank_f, Option.bind_some, drop_lt T p hc]
          have w1 : wrap64 ((p : Int) + 1) = ((p + 1 : Nat) : Int) := by unfold wrap64; omega
          rw [w1]
          cases hb : isB T[p] with
          | true =>
            rw [if_pos rfl, ih0 acc (p + 1) (by omega) (by omega) (by omega) (by omega), doc_tks_blank _ _ _ hb]
          | false =>
            rw [if_neg (by decide), word_f, Option.bind_some]
            cases hw : isW T[p] with
            | true =>
              rw [if_pos rfl, ih1 acc p (p + 1) (by omega) (by omega) (by omega) (by omega) (by omega), doc_tks_word _ _ _ hb hw, List.map_cons, List.drop_drop]
              rw [show p + 1 - p = 1 by omega, drop_lt T p hc]
              rfl
            | false =>
              rw [if_neg (by decide), if_pos (by omega), if_pos (by omega), if_pos (by omega)]
              rw [Int.toNat_natCast, Int.toNat_natCast, ih0 _ (p + 1) (by omega) (by omega) (by simp; omega) (by omega), tks_one _ _ _ hb hw, List.map_cons, List.append_assoc]
              rw [ext_tok, show p + 1 - p = 1 by omega, drop_lt T p hc]
              rfl
        · rw [if_neg (show ¬ (p : Int) < (T.size : Int) by omega), List.drop_eq_nil_of_le (by omega), tks_nil]
          simp
      · intro acc s q hd hs hq ha hk
        rw [plunderref10_Tokens.l1]
        have fin : ∀ (R : List S72), R = acc ++ tokS ((T.data.toList.drop s).take (q - s), s) :: (tks (T.data.toList.drop q) q).map tokS →
            (if (0 : Int) ≤ (s : Int) then (if (s : Int) ≤ (q : Int) then (if (q : Int) ≤ (T.size : Int) then (if acc.length < 5864062014805 then (plunderref10_Tokens.l0 k T (acc ++ [(⟨T.extract (s : Int).toNat (q : Int).toNat, (s : Int)⟩ : S72)]) (q : Int)) else (none)) else (none)) else (none)) else (none)) = some R := by
          intro R hR
          rw [if_pos (by omega), if_pos (by omega), if_pos (by omega), if_pos (by omega), Int.toNat_natCast, Int.toNat_natCast, ih0 _ q (by omega) (by omega) (by simp; omega) (by omega), hR, ext_tok, List.append_assoc]
          rfl
        by_cases hc : q < T.size
        · rw [if_pos (show (q : Int) < (T.size : Int) by omega), if_pos (show (0 : Int) ≤ (q : Int) by omega), bt_lt T q hc, word_f, Option.bind_some]
          have w1 : wrap64 ((q : Int) + 1) = ((q + 1 : Nat) : Int) := by unfold wrap64; omega
          rw [w1]
          cases hw : isW T[q] with
          | true =>
            have e : run isW (T.data.toList.drop q) = run isW (T.data.toList.drop (q + 1)) + 1 := by rw [drop_lt T q hc]; simp [run, hw]
            rw [if_pos rfl, ih1 acc s (q + 1) (by omega) (by omega) (by omega) (by omega) (by omega), e, show q + (run isW (T.data.toList.drop (q + 1)) + 1) = q + 1 + run isW (T.data.toList.drop (q + 1)) by omega]
            have e2 : (T.data.toList.drop s).take (q + 1 - s) = (T.data.toList.drop s).take (q - s) ++ [T[q]] := by
              rw [show q + 1 - s = (q - s) + 1 by omega, List.take_add, List.drop_drop, show s + (q - s) = q by omega, drop_lt T q hc]
              rfl
            rw [e2, List.append_assoc, drop_lt T q hc, List.take_succ_cons]
            rfl
          | false =>
            have e : run isW (T.data.toList.drop q) = 0 := by rw [drop_lt T q hc]; simp [run, hw]
            rw [if_neg (by decide)]
            refine fin _ ?_
            rw [e]
            simp
        · rw [if_neg (show ¬ (q : Int) < (T.size : Int) by omega)]
          refine fin _ ?_
          rw [List.drop_eq_nil_of_le (show T.data.toList.length ≤ q by omega)]
          simp [run, List.drop_eq_nil_of_le (show T.data.toList.length ≤ q by omega)]
theorem tokens_f (T : ByteArray) (hT : T.size ≤ 65536) : plunderref10_Tokens.f (2 * T.size + 1) T = some ((tks T.data.toList 0).map tokS) := by
  unfold plunderref10_Tokens.f
  have := (tokens_l T hT (2 * T.size + 1) (2 * T.size + 1)).1 [] 0 (by omega) (by omega) (by simp) (Nat.le_refl _)
  simpa using this
theorem Tokens_calls (T : ByteArray) (hT : T.size ≤ 65536) (w : World) :
    Calls Tryd.prog 28 #[.string T] w fun e w' => ∃ v, e = .returned v ∧ Kd.R k72 72 w' w.heap.size (fun _ => True) v ((tks T.data.toList 0).map tokS) ∧ Below w.heap.size w w' :=
  plunderref10_Tokens.calls _ T _ w (tokens_f T hT)
end Go.Proofs.YtjlbimnafbngaaaDoor.Dec
