/- What Encode writes Decode reads as the same script: plain facts. -/
import Derived.Test.YtjlbimnafbngaaaDoorDecFun
import Derived.Test.YtjlbimnafbngaaaDoorEncWalk
namespace Go.Proofs.YtjlbimnafbngaaaDoor.Dec
open Go.RowKit Go.Proofs.YtjlbimnafbngaaaDoor.BitMath Go.Proofs.YtjlbimnafbngaaaDoor.ParsePure Go.Proofs.YtjlbimnafbngaaaDoor.PScriptDecode
open Go.Proofs.YtjlbimnafbngaaaDoor.Enc (same same_le same_at piece toldL toldL_nil textL encF picksB drawsB)
set_option linter.unusedVariables false
theorem run_all (p : UInt8 → Bool) (w rest : Bytes) (hw : ∀ b ∈ w, p b = true) (hr : ∀ b l, rest = b :: l → p b = false) : run p (w ++ rest) = w.length := by
  induction w with
  | nil =>
    cases rest with
    | nil => rfl
    | cons b l => simp [run, hr b l rfl]
  | cons b w ih =>
    rw [List.cons_append]
    simp only [run]
    rw [if_pos (hw b (by simp)), ih (fun c hc => hw c (by simp [hc]))]
    rfl
theorem tks_blank (b : UInt8) (l : Bytes) (p : Nat) (hb : isB b = true) : tks (b :: l) p = tks l (p + 1) := by
  have e : (b :: l).drop (run isB (b :: l)) = l.drop (run isB l) := by simp only [run]; rw [if_pos hb]; rfl
  have e2 : run isB (b :: l) = run isB l + 1 := by simp only [run]; rw [if_pos hb]
  rw [tks_eq, e, e2, tks_eq l]
  split
  · rfl
  · rw [show p + (run isB l + 1) = p + 1 + run isB l by omega]
theorem tks_word (w rest : Bytes) (p : Nat) (hn : w ≠ []) (hw : ∀ b ∈ w, isW b = true) (hb : ∀ b ∈ w, isB b = false) (hr : ∀ b l, rest = b :: l → isW b = false) : tks (w ++ rest) p = (w, p) :: tks rest (p + w.length) := by
  obtain ⟨c, w', rfl⟩ : ∃ c w', w = c :: w' := by cases w with | nil => exact absurd rfl hn | cons c w' => exact ⟨c, w', rfl⟩
  have e0 : run isB (c :: w' ++ rest) = 0 := by rw [List.cons_append]; simp only [run]; rw [if_neg (by simp [hb c (by simp)])]
  have e1 : run isW (c :: w' ++ rest) = (c :: w').length := run_all isW _ _ hw hr
  have e2 : tlen (c :: w' ++ rest) = (c :: w').length := by
    unfold tlen
    rw [if_neg (by simp), e1, if_neg (by simp)]
  rw [tks_eq, e0, List.drop_zero, if_neg (by simp), e2, Nat.add_zero, List.take_left, List.drop_left]
theorem tks_sym (c : UInt8) (l : Bytes) (p : Nat) (hb : isB c = false) (hw : isW c = false) : tks (c :: l) p = ([c], p) :: tks l (p + 1) := by
  have e0 : run isB (c :: l) = 0 := by simp only [run]; rw [if_neg (by simp [hb])]
  have e1 : run isW (c :: l) = 0 := by simp only [run]; rw [if_neg (by simp [hw])]
  have e2 : tlen (c :: l) = 1 := by unfold tlen; rw [if_neg (by simp), if_pos e1]
  rw [tks_eq, e0, List.drop_zero, if_neg (by simp), e2, Nat.add_zero]
  rfl
theorem itoa_chars (x : Int) : ∀ b ∈ Lib.itoa x, isW b = true ∧ isB b = false := by
  have hd : ∀ b : UInt8, Dig b → isW b = true ∧ isB b = false := by
    intro b h
    unfold Dig at h
    constructor
    · unfold isW; simp; left; right; omega
    · unfold isB
      have : ∀ c : UInt8, c.toNat < 48 → (b == c) = false := fun c hc => by
        apply beq_eq_false_iff_ne.mpr
        rintro rfl
        omega
      rw [this 32 (by decide), this 9 (by decide), this 10 (by decide)]
      rfl
  intro b hb
  by_cases hx : x < 0
  · obtain ⟨r, e, h1, _⟩ := itoa_neg x hx
    rw [e] at hb
    rcases List.mem_cons.1 hb with rfl | hb
    · exact ⟨by decide, by decide⟩
    · exact hd b (h1 b hb)
  · exact hd b ((itoa_pos x hx).1 b hb)
theorem itoa_ne (x : Int) : Lib.itoa x ≠ [] := by
  by_cases hx : x < 0
  · obtain ⟨r, e, _⟩ := itoa_neg x hx
    rw [e]; simp
  · exact (itoa_pos x hx).2.1
/-- The pieces of a list, and its items. -/
def pcs : Nat → List Int → Bytes
  | 0, _ => []
  | _ + 1, [] => []
  | n + 1, x :: t => piece x (same x t) ++ pcs n (t.drop (same x t))
def itemsF : Nat → List Int → List S78
  | 0, _ => []
  | _ + 1, [] => []
  | n + 1, x :: t => ⟨x, [], ((same x t + 1 : Nat) : Int)⟩ :: itemsF n (t.drop (same x t))
theorem told_grow (n : Nat) : ∀ (b : Bytes) (l : List Int), b.length ≤ (toldL n b l).length := by
  induction n with
  | zero => intro b l; exact Nat.le_refl _
  | succ n ih =>
    intro b l
    cases l with
    | nil => rw [toldL_nil]; exact Nat.le_refl _
    | cons x t =>
      simp only [toldL]
      split
      · have := ih (b ++ piece x (same x t)) (t.drop (same x t))
        rw [List.length_append] at this
        omega
      · exact Nat.le_refl _
theorem told_pcs (n : Nat) : ∀ (b : Bytes) (l : List Int), (toldL n b l).length ≤ 65536 → toldL n b l = b ++ pcs n l := by
  induction n with
  | zero => intro b l _; simp [toldL, pcs]
  | succ n ih =>
    intro b l h
    cases l with
    | nil => rw [toldL_nil]; simp [pcs]
    | cons x t =>
      have hb := told_grow (n + 1) b (x :: t)
      have hb2 : b.length ≤ 65536 := Nat.le_trans hb h
      clear hb
      simp only [toldL] at h ⊢
      rw [if_pos hb2] at h ⊢
      rw [ih _ _ h]
      simp [pcs]
theorem take_same (x : Int) (t : List Int) : t.take (same x t) = List.replicate (same x t) x := by
  apply List.ext_getElem?
  intro j
  by_cases h : j < same x t
  · rw [List.getElem?_take_of_lt h, same_at x t j h, List.getElem?_replicate, if_pos h]
  · rw [List.getElem?_eq_none (by rw [List.length_take]; omega), List.getElem?_eq_none (by rw [List.length_replicate]; omega)]
theorem rep_one (n : Nat) (x : Int) : rep n [x] = List.replicate n x := by
  induction n with
  | zero => rfl
  | succ n ih => rw [rep_succ, ih, List.replicate_succ']
theorem exp_items (n : Nat) : ∀ l : List Int, l.length ≤ n → expL (itemsF n l) = l := by
  induction n with
  | zero =>
    intro l h
    have : l = [] := List.eq_nil_of_length_eq_zero (by omega)
    subst this
    rw [itemsF, expL]
  | succ n ih =>
    intro l h
    cases l with
    | nil => rw [itemsF, expL]
    | cons x t =>
      rw [List.length_cons] at h
      rw [itemsF, expL, expI_num, ih _ (by rw [List.length_drop]; omega), Int.toNat_natCast, rep_one, List.replicate_succ, List.cons_append, ← take_same, List.take_append_drop]
theorem piece_len (x : Int) (r : Nat) : 2 ≤ (piece x r).length := by
  unfold piece
  have := itoa_ne x
  cases h : Lib.itoa x with
  | nil => exact absurd h this
  | cons b l => simp
theorem items_len (n : Nat) : ∀ l : List Int, 2 * (itemsF n l).length ≤ (pcs n l).length := by
  induction n with
  | zero => intro l; simp [itemsF, pcs]
  | succ n ih =>
    intro l
    cases l with
    | nil => simp [itemsF, pcs]
    | cons x t =>
      have h1 := ih (t.drop (same x t))
      have h2 := piece_len x (same x t)
      simp only [itemsF, pcs, List.length_cons, List.length_append]
      omega
/-- What may follow a list. -/
def Rest (rest : Bytes) : Prop := (∀ b l, rest = b :: l → b = 32) ∧ ∀ p, numOf (wd (tks rest p)) = none ∧ wd (tks rest p) ≠ [40] ∧ wd (tks rest p) ≠ [42]
theorem wd_piece (n : Nat) (l : List Int) (rest : Bytes) (hr : Rest rest) (p : Nat) : wd (tks (pcs n l ++ rest) p) ≠ [42] ∧ ∀ b l', pcs n l ++ rest = b :: l' → b = 32 := by
  cases n with
  | zero => exact ⟨(hr.2 p).2.2, hr.1⟩
  | succ n =>
    cases l with
    | nil => exact ⟨(hr.2 p).2.2, hr.1⟩
    | cons x t =>
      refine ⟨?_, ?_⟩
      · have hq : ∀ q : Bytes, (∀ b l', q = b :: l' → isW b = false) → wd (tks (32 :: (Lib.itoa x ++ q)) p) ≠ [42] := by
          intro q hq
          rw [tks_blank _ _ _ (by decide), tks_word _ _ _ (itoa_ne x) (fun b hb => (itoa_chars x b hb).1) (fun b hb => (itoa_chars x b hb).2) hq]
          show Lib.itoa x ≠ [42]
          intro e
          have := (itoa_chars x 42 (by rw [e]; simp)).1
          exact absurd this (by decide)
        simp only [pcs, piece]
        split
        · rw [List.append_nil, List.cons_append, List.cons_append, List.append_assoc]
          refine hq _ (fun b l' e => ?_)
          have := (wd_piece n (t.drop (same x t)) rest hr 0).2 b l' e
          subst this
          decide
        · rw [List.cons_append, List.cons_append, List.append_assoc, List.append_assoc]
          refine hq _ (fun b l' e => ?_)
          simp only [List.cons_append] at e
          injection e with e _
          subst e
          decide
      · intro b l' e
        simp only [pcs, piece, List.cons_append] at e
        injection e with e _
        exact e.symm
theorem num_itoa {x : Int} (h : In64 x) : numOf (Lib.itoa x) = some x := numOf_some.2 ⟨h, rfl⟩
/-- The pieces are read as the items. -/
theorem parse_pcs (E : Nat) (rest : Bytes) (hr : Rest rest) (n : Nat) : ∀ (l : List Int) (p k : Nat), (∀ x ∈ l, In64 x) → l.length ≤ 1048576 → l.length ≤ n → (itemsF n l).length < k →
    pL E k 0 (tks (pcs n l ++ rest) p) = some (.inr (itemsF n l, tks rest (p + (pcs n l).length))) := by
  induction n with
  | zero =>
    intro l p k hl hm hn hk
    obtain ⟨k, rfl⟩ : ∃ m, k = m + 1 := ⟨k - 1, by omega⟩
    have h := hr.2 p
    simp only [pcs, itemsF, List.nil_append, List.length_nil, Nat.add_zero]
    exact pL_end h.1 (fun c => h.2.1 c.1)
  | succ n ih =>
    intro l p k hl hm hn hk
    obtain ⟨k, rfl⟩ : ∃ m, k = m + 1 := ⟨k - 1, by omega⟩
    cases l with
    | nil =>
      have h := hr.2 p
      simp only [pcs, itemsF, List.nil_append, List.length_nil, Nat.add_zero]
      exact pL_end h.1 (fun c => h.2.1 c.1)
    | cons x t =>
      have hx := hl x (by simp)
      have hs := same_le x t
      rw [List.length_cons] at hm hn
      simp only [itemsF, List.length_cons] at hk
      have hi := fun q => ih (t.drop (same x t)) q k (fun y hy => hl y (List.mem_cons_of_mem _ (List.mem_of_mem_drop hy))) (by rw [List.length_drop]; omega) (by rw [List.length_drop]; omega) (by omega)
      have hw := fun q => wd_piece n (t.drop (same x t)) rest hr q
      simp only [pcs, piece, itemsF]
      by_cases h0 : same x t = 0
      · rw [if_pos h0, h0]
        rw [h0, List.drop_zero] at hi hw
        rw [List.drop_zero, List.append_nil, List.cons_append, List.cons_append, List.append_assoc, tks_blank _ _ _ (by decide), tks_word _ _ _ (itoa_ne x) (fun b hb => (itoa_chars x b hb).1) (fun b hb => (itoa_chars x b hb).2) (fun b l' e => by have := (hw 0).2 b l' e; subst this; decide)]
        rw [pL_num (ts := (Lib.itoa x, p + 1) :: _) (num_itoa hx), List.tail_cons, pRest_one (hw _).1]
        unfold pGo
        rw [hi]
        simp only [List.length_cons, List.length_append]
        refine congrArg some (congrArg Sum.inr ?_)
        refine Prod.ext rfl ?_
        show tks rest _ = tks rest _
        congr 1
        omega
      · rw [if_neg h0]
        have hc : In64 ((same x t + 1 : Nat) : Int) := by unfold In64; omega
        rw [List.cons_append, List.cons_append, List.append_assoc, List.append_assoc, tks_blank _ _ _ (by decide), tks_word _ _ _ (itoa_ne x) (fun b hb => (itoa_chars x b hb).1) (fun b hb => (itoa_chars x b hb).2) (fun b l' e => by
          rw [List.cons_append] at e
          injection e with e _
          subst e
          decide)]
        rw [pL_num (ts := (Lib.itoa x, p + 1) :: _) (num_itoa hx), List.tail_cons, List.cons_append, tks_sym _ _ _ (by decide) (by decide), tks_word _ _ _ (itoa_ne _) (fun b hb => (itoa_chars _ b hb).1) (fun b hb => (itoa_chars _ b hb).2) (fun b l' e => by have := (hw 0).2 b l' e; subst this; decide)]
        rw [pRest_count (v := ((same x t + 1 : Nat) : Int)) rfl (by rw [List.tail_cons]; exact num_itoa hc) ⟨by omega, by omega⟩]
        unfold pGo
        rw [List.tail_cons, List.tail_cons, hi]
        simp only [List.length_cons, List.length_append]
        refine congrArg some (congrArg Sum.inr ?_)
        refine Prod.ext rfl ?_
        show tks rest _ = tks rest _
        congr 1
        omega
theorem num_draws : numOf bDraws = none := by
  rw [numOf_none]
  intro x hx e
  have h := itoa_val e
  rcases h with ⟨h1, _⟩ | ⟨_, _, h3, _⟩
  · simp [bDraws] at h1
  · have := h3 100 (by simp [bDraws])
    exact absurd this (by unfold Dig; decide)
theorem num_nil : numOf [] = none := by
  rw [numOf_none]
  intro x hx e
  exact itoa_ne x e
theorem rest_nil : Rest [] := by
  refine ⟨fun b l e => (by cases e), fun p => ?_⟩
  have : tks [] p = [] := by rw [tks_eq]; simp [run]
  rw [this]
  exact ⟨num_nil, by simp [wd], by simp [wd]⟩
theorem draws_tks (rest : Bytes) (h : ∀ b l, rest = b :: l → b = 32) (p : Nat) : tks (drawsB ++ rest) p = (bDraws, p + 1) :: tks rest (p + 6) := by
  show tks (32 :: (bDraws ++ rest)) p = _
  rw [tks_blank _ _ _ (by decide), tks_word bDraws rest _ (by simp [bDraws]) (by unfold bDraws; decide) (by unfold bDraws; decide) (fun b l e => by have := h b l e; subst this; decide)]
  rfl
theorem rest_draws (rest : Bytes) (h : ∀ b l, rest = b :: l → b = 32) : Rest (drawsB ++ rest) := by
  refine ⟨fun b l e => ?_, fun p => ?_⟩
  · simp only [drawsB, List.cons_append] at e
    injection e with e _
    exact e.symm
  · rw [draws_tks rest h p]
    exact ⟨num_draws, by show bDraws ≠ [40]; decide, by show bDraws ≠ [42]; decide⟩
/-- What Encode writes Decode reads. -/
theorem dec_enc (l0 l1 : List Int) (h0 : ∀ x ∈ l0, In64 x) (h1 : ∀ x ∈ l1, In64 x) (m0 : l0.length ≤ 1048576) (m1 : l1.length ≤ 1048576) (hl : (textL l0 l1).length ≤ 65536) : decF (textL l0 l1) = ((l0, l1), (0, 0)) := by
  have e1 : textL l0 l1 = picksB ++ (pcs l0.length l0 ++ (drawsB ++ pcs l1.length l1)) := by
    unfold textL at hl ⊢
    have hg := told_grow l1.length (toldL l0.length picksB l0 ++ drawsB) l1
    rw [List.length_append] at hg
    rw [told_pcs _ _ _ hl, told_pcs l0.length picksB l0 (by omega), List.append_assoc, List.append_assoc]
  have hw1 := wd_piece l1.length l1 [] rest_nil 0
  rw [List.append_nil] at hw1
  have hR := rest_draws (pcs l1.length l1) hw1.2
  have hw0 := wd_piece l0.length l0 _ hR 0
  have hlen := hl
  rw [e1, List.length_append, List.length_append, List.length_append] at hlen
  have hi0 := items_len l0.length l0
  have hi1 := items_len l1.length l1
  unfold decF
  rw [if_neg (by omega)]
  have hts : tks (textL l0 l1) 0 = (bPicks, 0) :: tks (pcs l0.length l0 ++ (drawsB ++ pcs l1.length l1)) 5 := by
    rw [e1]
    show tks (bPicks ++ _) 0 = _
    rw [tks_word bPicks _ _ (by simp [bPicks]) (by unfold bPicks; decide) (by unfold bPicks; decide) (fun b l e => by have := hw0.2 b l e; subst this; decide)]
    rfl
  have hp0 := parse_pcs (textL l0 l1).length _ hR l0.length l0 5 70000 h0 m0 (Nat.le_refl _) (by omega)
  have hp1 := fun q => parse_pcs (textL l0 l1).length [] rest_nil l1.length l1 q 70000 h1 m1 (Nat.le_refl _) (by omega)
  have hnil : ∀ q, tks [] q = [] := fun q => by rw [tks_eq]; simp [run]
  unfold pS
  rw [hts]
  rw [if_pos (show wd ((bPicks, 0) :: tks (pcs l0.length l0 ++ (drawsB ++ pcs l1.length l1)) 5) = bPicks from rfl), List.tail_cons, hp0]
  dsimp only
  rw [draws_tks _ hw1.2]
  rw [if_pos (show wd ((bDraws, 5 + (pcs l0.length l0).length + 1) :: tks (pcs l1.length l1) (5 + (pcs l0.length l0).length + 6)) = bDraws from rfl), List.tail_cons]
  have hp2 := hp1 (5 + (pcs l0.length l0).length + 6)
  rw [List.append_nil, hnil] at hp2
  rw [hp2]
  dsimp only
  rw [if_pos rfl]
  dsimp only
  rw [exp_items _ l0 (Nat.le_refl _), exp_items _ l1 (Nat.le_refl _), if_neg (by omega)]
end Go.Proofs.YtjlbimnafbngaaaDoor.Dec
namespace Go.Proofs.YtjlbimnafbngaaaDoor.Dec
open Go.RowKit Go.Proofs.YtjlbimnafbngaaaDoor.BitMath Go.Proofs.YtjlbimnafbngaaaDoor.ParsePure Go.Proofs.YtjlbimnafbngaaaDoor.PScriptDecode
open Go.Proofs.YtjlbimnafbngaaaDoor.Enc (same same_le same_at piece toldL toldL_nil textL encF picksB drawsB)
theorem told_bound (n : Nat) : ∀ (b : Bytes) (l : List Int), (∀ x ∈ l, In64 x) → l.length ≤ 1048576 → (toldL n b l).length ≤ b.length + 21 * l.length := by
  induction n with
  | zero => intro b l _ _; simp only [toldL]; omega
  | succ n ih =>
    intro b l h hm
    cases l with
    | nil => rw [toldL_nil]; omega
    | cons x t =>
      have hs := same_le x t
      rw [List.length_cons] at hm ⊢
      simp only [toldL]
      split
      · have h1 := ih (b ++ piece x (same x t)) (t.drop (same x t)) (fun y hy => h y (List.mem_cons_of_mem _ (List.mem_of_mem_drop hy))) (by rw [List.length_drop]; omega)
        have h2 := (FmtLen.itoa_len x (h x (by simp))).2
        have h3 := (FmtLen.itoa_len ((same x t + 1 : Nat) : Int) (by unfold In64; omega)).2
        rw [List.length_append, List.length_drop] at h1
        have h4 : (piece x (same x t)).length ≤ 21 * (same x t + 1) := by
          unfold piece
          split
          · simp; omega
          · simp only [List.length_cons, List.length_append]; omega
        omega
      · omega
theorem text_bound (l0 l1 : List Int) (h0 : ∀ x ∈ l0, In64 x) (h1 : ∀ x ∈ l1, In64 x) (m0 : l0.length ≤ 1048576) (m1 : l1.length ≤ 1048576) : (textL l0 l1).length ≤ 11 + 21 * (l0.length + l1.length) := by
  unfold textL
  have e1 := told_bound l1.length (toldL l0.length picksB l0 ++ drawsB) l1 h1 m1
  have e0 := told_bound l0.length picksB l0 h0 m0
  rw [List.length_append] at e1
  simp only [picksB, drawsB, List.length_cons, List.length_nil] at e0 e1
  simp only [picksB, drawsB]
  omega
mutual
/-- Each number is one of 64 bits. -/
def inI : S78 → Prop
  | ⟨n, l, _⟩ => In64 n ∧ inL l
def inL : List S78 → Prop
  | [] => True
  | x :: l => inI x ∧ inL l
end
theorem rep_mem {n : Nat} {l : List Int} {x : Int} (h : x ∈ rep n l) : x ∈ l := by
  induction n with
  | zero => simp [rep] at h
  | succ n ih => rw [rep_succ] at h; rcases List.mem_append.1 h with h | h; exact ih h; exact h
theorem exp_in {l : List S78} (h : inL l) : ∀ x ∈ expL l, In64 x := by
  have key : ∀ n (l : List S78), dpL l ≤ n → inL l → ∀ x ∈ expL l, In64 x := by
    intro n
    induction n with
    | zero =>
      intro l hd _ x hx
      cases l with
      | nil => rw [expL] at hx; cases hx
      | cons y l => have := dp_mem (show y ∈ y :: l by simp); omega
    | succ n ih =>
      intro l
      induction l with
      | nil => intro _ _ x hx; rw [expL] at hx; cases hx
      | cons y l ihl =>
        intro hd hi x hx
        rw [inL] at hi
        rw [expL] at hx
        have hdy := dp_mem (show y ∈ y :: l by simp)
        rcases List.mem_append.1 hx with hx | hx
        · obtain ⟨a, g, c⟩ := y
          have hi1 := hi.1
          rw [inI] at hi1
          by_cases hg : g = []
          · subst hg
            rw [expI_num] at hx
            have := rep_mem hx
            rw [List.mem_singleton] at this
            subst this
            exact hi1.1
          · rw [expI_grp hg] at hx
            dsimp only at hdy
            exact ih g (by omega) hi1.2 x (rep_mem hx)
        · refine ihl ?_ hi.2 x hx
          rw [dpL] at hd
          omega
  exact key _ l (Nat.le_refl _) h
theorem pL_in (E : Nat) : ∀ (k o : Nat) (ts : List Tok) (l : List S78) (t : List Tok), pL E k o ts = some (.inr (l, t)) → inL l := by
  intro k
  induction k with
  | zero => intro o ts l t h; simp [pL] at h
  | succ k ih =>
    have rest : ∀ (o : Nat) (x : S78) (t1 : List Tok) (l : List S78) (t : List Tok), In64 x.f0 → inL x.f1 → pRest E k o x t1 = some (.inr (l, t)) → inL l := by
      intro o x t1 l t h1 h3 h
      unfold pRest at h
      cases hp : pTail E x t1 with
      | inl p => rw [hp] at h; cases h
      | inr yt =>
        obtain ⟨y, t2⟩ := yt
        rw [hp] at h
        have hy : In64 y.f0 ∧ inL y.f1 := by
          unfold pTail at hp
          split at hp
          · split at hp
            · split at hp
              · injection hp with hp
                injection hp with hp _
                subst hp
                exact ⟨h1, h3⟩
              · cases hp
            · cases hp
          · injection hp with hp
            injection hp with hp _
            subst hp
            exact ⟨h1, h3⟩
        obtain ⟨q, hq, hr⟩ := pGo_some h
        cases q with
        | inl p => cases hr
        | inr lt =>
          obtain ⟨l2, t3⟩ := lt
          injection hr with hr
          injection hr with hr _
          subst hr
          have := ih _ _ _ _ hq
          rw [List.singleton_append, inL]
          refine ⟨?_, this⟩
          obtain ⟨a, g, c⟩ := y
          rw [inI]
          exact hy
    intro o ts l t h
    rw [pL_eq] at h
    cases hq : pHead (pL E k) E o ts with
    | none => rw [hq] at h; cases h
    | some q =>
      rw [hq] at h
      cases q with
      | inl p => cases h
      | inr q =>
        cases q with
        | none => injection h with h; injection h with h; injection h with h _; subst h; rw [inL]; trivial
        | some xt =>
          obtain ⟨x, t1⟩ := xt
          have hx : In64 x.f0 ∧ inL x.f1 := by
            unfold pHead at hq
            split at hq
            · rename_i v hv
              injection hq with hq; injection hq with hq; injection hq with hq; injection hq with hq _
              subst hq
              exact ⟨(numOf_some.1 hv).1, by rw [inL]; trivial⟩
            · split at hq
              · split at hq
                · cases hq
                · cases hq
                · rename_i l1 t1' hp
                  split at hq
                  · cases hq
                  · split at hq
                    · cases hq
                    · injection hq with hq; injection hq with hq; injection hq with hq; injection hq with hq _
                      subst hq
                      exact ⟨show In64 (0 : Int) by unfold In64; omega, ih _ _ _ _ hp⟩
              · cases hq
          exact rest _ x t1 l t hx.1 hx.2 h
/-- What is decoded of any text: lists of numbers, not too long; none where there is an error. -/
theorem dec_facts (L : Bytes) : ((decF L).2.1 = 0 ∧ (∀ x ∈ (decF L).1.1, In64 x) ∧ (∀ x ∈ (decF L).1.2, In64 x) ∧ (decF L).1.1.length ≤ 1048576 ∧ (decF L).1.2.length ≤ 1048576) ∨ ((decF L).2.1 ≠ 0 ∧ (decF L).1.1 = [] ∧ (decF L).1.2 = []) := by
  unfold decF
  split
  · right; exact ⟨by decide, rfl, rfl⟩
  · cases hp : pS L.length 70000 (tks L 0) with
    | none => left; exact ⟨rfl, (fun x h => by cases h), (fun x h => by cases h), Nat.zero_le _, Nat.zero_le _⟩
    | some q =>
      cases q with
      | inl p => right; exact ⟨show (100 : Int) ≠ 0 by decide, rfl, rfl⟩
      | inr ab =>
        obtain ⟨a, b⟩ := ab
        dsimp only
        split
        · right; exact ⟨by decide, rfl, rfl⟩
        · rename_i hn
          left
          have hab : inL a ∧ inL b := by
            unfold pS at hp
            split at hp
            · split at hp
              · cases hp
              · cases hp
              · rename_i a' t' hq1
                split at hp
                · split at hp
                  · cases hp
                  · cases hp
                  · rename_i b' t2' hq2
                    split at hp
                    · injection hp with hp; injection hp with hp; injection hp with hp1 hp2
                      subst hp1 hp2
                      exact ⟨pL_in _ _ _ _ _ _ hq1, pL_in _ _ _ _ _ _ hq2⟩
                    · cases hp
                · cases hp
            · cases hp
          exact ⟨rfl, exp_in hab.1, exp_in hab.2, by dsimp only; omega, by dsimp only; omega⟩
end Go.Proofs.YtjlbimnafbngaaaDoor.Dec
