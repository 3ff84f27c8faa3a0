/- A drawer along a list. -/
import Derived.Test.YtjlbimnafbngaaaSources
import Derived.Test.YtjlbimnafbngaaaClone
namespace Go.Proofs.Ytjlbimnafbngaaa.Pull
open Go.RowKit Go.Proofs.YtjlbimnafbngaaaW.PrintWords Go.Proofs.YtjlbimnafbngaaaW.PrintLast

/-- The next draw along a list: at is the place. -/
def alongNext (l : List Int) (again : Bool) (at_ : Nat) : Int × Nat :=
  let p := if at_ = l.length ∧ again = true then 0 else at_
  if p = l.length then (0, p) else (l.getD p 0, p + 1)
/-- A drawer along a list: its four blocks and its row, all from lo to hi. -/
structure AlongAt (lo hi : Nat) (p : Value) (l : List Int) (again : Bool) (w : World) (at_ : Nat) : Prop where
  ex : ∃ (d ga gl gg : Nat) (v : Value), p = .pointer (some ⟨d, 0, none⟩) ∧
    w.heap[d]? = some (.cells #[.func (.func 57) #[] #[.pointer (some ⟨ga, 0, none⟩), .pointer (some ⟨gl, 0, none⟩), .pointer (some ⟨gg, 0, none⟩)]] 58 (0, 0)) ∧
    w.heap[ga]? = some (.cells #[.int .i64 (at_ : Int)] 3 (0, 0)) ∧ w.heap[gl]? = some (.cells #[v] 22 (0, 0)) ∧ w.heap[gg]? = some (.cells #[.bool again] 4 (0, 0)) ∧
    Kd.R (Kd.int .i64) 3 w lo (fun k => k ≠ ga ∧ k < hi) v l ∧
    (lo ≤ d ∧ d < hi) ∧ (lo ≤ ga ∧ ga < hi) ∧ (lo ≤ gl ∧ gl < hi) ∧ (lo ≤ gg ∧ gg < hi)
  le : at_ ≤ l.length

set_option maxHeartbeats 4000000 in
set_option maxRecDepth 100000 in
theorem along_next (w0 : World) (lo hi ga gl gg at_ : Nat) (v : Value) (l : List Int) (again : Bool) (w : World) (hl : l.length ≤ 1048576) (hat : at_ ≤ l.length)
    (h1 : w.heap[ga]? = some (.cells #[.int .i64 (at_ : Int)] 3 (0, 0))) (h2 : w.heap[gl]? = some (.cells #[v] 22 (0, 0))) (h3 : w.heap[gg]? = some (.cells #[.bool again] 4 (0, 0)))
    (hr : Kd.R (Kd.int .i64) 3 w lo (fun k => k ≠ ga ∧ k < hi) v l) (hB : Below w0.heap.size w0 w) (hg : w0.heap.size ≤ ga) :
    Calls Try.prog 57 #[.pointer (some ⟨ga, 0, none⟩), .pointer (some ⟨gl, 0, none⟩), .pointer (some ⟨gg, 0, none⟩)] w fun e w' => e = .returned (.int .i64 (alongNext l again at_).1) ∧
      w'.heap[ga]? = some (.cells #[.int .i64 ((alongNext l again at_).2 : Int)] 3 (0, 0)) ∧ Below w0.heap.size w0 w' ∧ Kept w w' (fun k => k = ga) := by
  obtain ⟨A, c, rfl, hc, _⟩ := Kd.R_reads hr
  have ca := cell_of h1
  have fa := blk_frozen h1 0
  have cl := cell_of h2
  have fl := blk_frozen h2 0
  have cg := cell_of h3
  have fg := blk_frozen h3 0
  have HB := Aside0.mk hB
  have HG := Aside0.mk hg
  have H1 := Aside0.mk h1
  have H2 := Aside0.mk h2
  have H3 := Aside0.mk h3
  have HR := Aside0.mk hr
  have n1 : gl ≠ ga := blk_ne h2 h1 (by decide)
  have n2 : gg ≠ ga := blk_ne h3 h1 (by decide)
  have n3 : gg ≠ gl := blk_ne h3 h2 (by decide)
  clear hB hg h1 h2 h3 hr
  obtain ⟨n, hn⟩ : ∃ n, l.length = n := ⟨_, rfl⟩
  have HN := Aside0.mk hn
  have fin : ∀ q : Int, w.heap[ga]? = some (.cells #[.int .i64 (at_ : Int)] 3 (0, 0)) → (w.setCell ⟨ga, 0, none⟩ (.int .i64 q)).heap[ga]? = some (.cells #[.int .i64 q] 3 (0, 0)) := fun q h => blk_put h 0 _ rfl
  have FIN := Aside0.mk fin
  clear fin
  by_cases e1 : at_ = n
  · subst e1
    cases again with
    | true =>
      by_cases e0 : at_ = 0
      · have e : alongNext l true at_ = (0, 0) := by unfold alongNext; simp [hn, e0]
        rw [e]
        rw [hn] at cl hc
        subst e0
        clear hn e hl hat
        go_enter Try.func57, Try.ntmps57
        go_wp2
        go_ret
        exact ⟨rfl, FIN.out _ H1.out, HB.out.setCell (p := ⟨ga, 0, none⟩) HG.out _, (Kept.refl w (fun k => k = ga)).setCell (p := ⟨ga, 0, none⟩) (.inl rfl) _⟩
      · have e : alongNext l true at_ = (l.getD 0 0, 1) := by unfold alongNext; simp [hn]; omega
        rw [e]
        obtain ⟨gr, kr, er, _, _, _, _⟩ := Kd.R_form HR.out (by omega)
        injection er with er _ erc
        subst er erc
        have hne : gr ≠ ga := (HR.out.1 gr rfl).1
        obtain ⟨hx, hf⟩ := Kd.R_celln 0 HR.out (0 : Int) (by omega) (by omega)
        simp only [Int.toNat_zero] at hx hf
        rw [show rdOf 0 l (0 : Int) = l.getD 0 0 from by simp [rdOf]] at hx
        rw [hn] at cl hc
        generalize l.getD 0 0 = y at *
        have hm : (at_ : Int) ≤ 1048576 := by omega
        have hlt2 : ((0 : Int) < (at_ : Int)) = True := eq_true (by omega)
        have hq : ((0 : Int) == (at_ : Int)) = false := by simp; omega
        have hq2 : ¬ ((0 : Int) = (at_ : Int)) := by omega
        have hp0 : 0 < at_ := by omega
        clear hn e hl hat e0
        go_enter Try.func57, Try.ntmps57
        go_wp2
        go_ret
        exact ⟨rfl, by simpa using blk_put (FIN.out 0 H1.out) 0 (.int .i64 1) rfl, (HB.out.setCell (p := ⟨ga, 0, none⟩) HG.out _).setCell (p := ⟨ga, 0, none⟩) HG.out _, ((Kept.refl w (fun k => k = ga)).setCell (p := ⟨ga, 0, none⟩) (.inl rfl) _).setCell (p := ⟨ga, 0, none⟩) (.inl rfl) _⟩
    | false =>
      have e : alongNext l false at_ = (0, at_) := by unfold alongNext; simp [hn]
      rw [e]
      rw [hn] at cl hc
      clear hn e hl hat
      go_enter Try.func57, Try.ntmps57
      go_wp2
      go_ret
      exact ⟨rfl, H1.out, HB.out, Kept.refl w _⟩
  · have hlt : at_ < n := by omega
    have e : alongNext l again at_ = (l.getD at_ 0, at_ + 1) := by unfold alongNext; simp [hn, e1]
    rw [e]
    obtain ⟨gr, kr, er, _, _, _, _⟩ := Kd.R_form HR.out (by omega)
    injection er with er _ erc
    subst er erc
    have hne : gr ≠ ga := (HR.out.1 gr rfl).1
    obtain ⟨hx, hf⟩ := Kd.R_celln 0 HR.out (at_ : Int) (by omega) (by omega)
    simp only [Int.toNat_natCast] at hx hf
    rw [show rdOf 0 l (at_ : Int) = l.getD at_ 0 from by simp [rdOf]] at hx
    rw [hn] at cl hc
    generalize l.getD at_ 0 = y at *
    have hm : (at_ : Int) ≤ 1048576 := by omega
    have hlt2 : ((at_ : Int) < (n : Int)) = True := eq_true (by omega)
    have hq : ((at_ : Int) == (n : Int)) = false := by simp; omega
    clear hn e hl hat
    cases again with
    | true =>
      go_enter Try.func57, Try.ntmps57
      go_wp2
      go_ret
      exact ⟨rfl, FIN.out _ H1.out, HB.out.setCell (p := ⟨ga, 0, none⟩) HG.out _, (Kept.refl w (fun k => k = ga)).setCell (p := ⟨ga, 0, none⟩) (.inl rfl) _⟩
    | false =>
      go_enter Try.func57, Try.ntmps57
      go_wp2
      go_ret
      exact ⟨rfl, FIN.out _ H1.out, HB.out.setCell (p := ⟨ga, 0, none⟩) HG.out _, (Kept.refl w (fun k => k = ga)).setCell (p := ⟨ga, 0, none⟩) (.inl rfl) _⟩

theorem alongNext_le (l : List Int) (again : Bool) (at_ : Nat) (h : at_ ≤ l.length) : (alongNext l again at_).2 ≤ l.length := by
  unfold alongNext
  simp only
  split <;> split <;> simp <;> omega
theorem AlongAt.keep {lo hi : Nat} {p : Value} {l : List Int} {again : Bool} {w w' : World} {at_ : Nat} (h : AlongAt lo hi p l again w at_) (hk : ∀ k, lo ≤ k → k < hi → w'.heap[k]? = w.heap[k]?) : AlongAt lo hi p l again w' at_ := by
  obtain ⟨⟨d, ga, gl, gg, v, e, h1, h2, h3, h4, hr, b1, b2, b3, b4⟩, hle⟩ := h
  exact ⟨⟨d, ga, gl, gg, v, e, (hk d b1.1 b1.2).trans h1, (hk ga b2.1 b2.2).trans h2, (hk gl b3.1 b3.2).trans h3, (hk gg b4.1 b4.2).trans h4,
    Kd.R_step (Kd.R_bound hr) (fun k ho _ => hk k ho.2.1 ho.1.2) |> fun h => Kd.R_mono h (fun k hk => hk.1), b1, b2, b3, b4⟩, hle⟩
set_option maxHeartbeats 4000000 in
set_option maxRecDepth 100000 in
theorem along_draw {w0 : World} {lo hi : Nat} {p : Value} {l : List Int} {again : Bool} {at_ : Nat} (w : World) (hl : l.length ≤ 1048576) (hB : Below w0.heap.size w0 w) (h : AlongAt lo hi p l again w at_) (hlo : w0.heap.size ≤ lo) :
    Calls Try.prog 28 #[p] w fun e w' => e = .returned (.int .i64 (alongNext l again at_).1) ∧ AlongAt lo hi p l again w' (alongNext l again at_).2 ∧ Below w0.heap.size w0 w' ∧ Kept w w' (fun k => lo ≤ k ∧ k < hi) := by
  obtain ⟨⟨d, ga, gl, gg, v, rfl, h1, h2, h3, h4, hr, b1, b2, b3, b4⟩, hle⟩ := h
  have HC := Aside0.mk (along_next w0 lo hi ga gl gg at_ v l again w hl hle h2 h3 h4 hr hB (by omega))
  have hc := cell_of h1
  have hf := blk_frozen h1 0
  have hq := eq_func
  have n1 : d ≠ ga := blk_ne h1 h2 (by decide)
  have n2 : gl ≠ ga := blk_ne h3 h2 (by decide)
  have n3 : gg ≠ ga := blk_ne h4 h2 (by decide)
  have HH := Aside0.mk (And.intro h1 (And.intro h3 (And.intro h4 hr)))
  have HLe := Aside0.mk (alongNext_le l again at_ hle)
  clear h1 h2 h3 h4 hr hB hle
  go_enter Try.func28, Try.ntmps28
  go_wp2_with fail
  refine (HC.out).mono ?_
  rintro e w' ⟨rfl, g2, hb, hk⟩
  obtain ⟨h1, h3, h4, hr⟩ := HH.out
  have F := Aside0.mk (show AlongAt lo hi (.pointer (some ⟨d, 0, none⟩)) l again w' (alongNext l again at_).2 from ⟨⟨d, ga, gl, gg, v, rfl, blk_kept h1 hk n1, g2, blk_kept h3 hk n2, blk_kept h4 hk n3, Kd.R_kept hr hk (fun k hk => hk.1), b1, b2, b3, b4⟩, HLe.out⟩)
  have HB := Aside0.mk hb
  have HK := Aside0.mk (hk.mono (S' := fun k => lo ≤ k ∧ k < hi) (fun k e => by subst e; exact b2))
  clear g2 h1 h3 h4 hr hb hk
  go_wp2
  go_ret
  exact ⟨rfl, F.out, HB.out, HK.out⟩
set_option maxHeartbeats 4000000 in
set_option maxRecDepth 100000 in
theorem along_calls (A0 : Option Addr) (c0 : Nat) (l : List Int) (again : Bool) (w : World) (hr0 : Kd.C (Kd.int .i64) w A0 l.length l) (hl : l.length ≤ 1048576) :
    Calls Try.prog 54 #[.slice A0 l.length c0, .bool again] w fun e w' => ∃ p, e = .returned p ∧ AlongAt w.heap.size w'.heap.size p l again w' 0 ∧ Below w.heap.size w w' ∧ ∃ d : Nat, p = .pointer (some ⟨d, 0, none⟩) := by
  have hmf : ∀ (fn : Fn) (first cap : Array Value) (w : World), (Instr.makeFunc fn first cap).run Try.prog w = .ok (.func fn first cap) w := fun _ _ _ _ => rfl
  have HB := Aside0.mk (Below.refl w.heap.size w)
  have HC := Aside0.mk (Go.Proofs.Ytjlbimnafbngaaa.Clone.clone_calls A0 c0 l (w.alloc (.cells #[.bool again] 4)) (Kd.C_below hr0 (below_alloc (Below.refl _ _) _)) (by omega))
  clear hr0
  go_enter Try.func54, Try.ntmps54
  go_wp2_with fail
  refine (HC.out).mono ?_
  rintro e w1 ⟨v, rfl, hr, hb⟩
  obtain ⟨A, c, rfl, _, _⟩ := Kd.R_reads hr
  have HR := Aside0.mk hr
  have HBw := Aside0.mk hb
  clear hr hb HC
  go_wp2
  go_ret
  have hb := HBw.out
  have hs := hb.size
  rw [World.size_alloc] at hs
  have h3 := blk_below (blk_new w (.cells #[.bool again] 4)) hb
  have hbw : Below w.heap.size w w1 := below_step (below_alloc (Below.refl w.heap.size w) (.cells #[.bool again] 4)) hb
  have hR := Kd.R_mono (Kd.R_lower (base' := w.heap.size) (Kd.R_bound HR.out) (by rw [World.size_alloc]; omega)) (ok' := fun k => k ≠ w1.heap.size + 1 ∧ k < w1.heap.size + 1 + 1 + 1) (fun k hk => by have := hk.2.2; exact ⟨by omega, by omega⟩)
  clear HR HBw hb HB
  generalize eO1 : (Obj.cells #[.slice A l.length c] 22 : Obj) = O1
  generalize eO2 : (Obj.cells #[.int .i64 0] 3 : Obj) = O2
  generalize eO3 : (Obj.cells #[Value.func (Fn.func 57) #[] #[Value.pointer (some ⟨w1.heap.size + 1, 0, none⟩), Value.pointer (some ⟨w1.heap.size, 0, none⟩), Value.pointer (some ⟨w.heap.size, 0, none⟩)]] 58 : Obj) = O3
  have k1 : Below w1.heap.size w1 (((w1.alloc O1).alloc O2).alloc O3) := below_alloc (below_alloc (below_alloc (Below.refl _ _) _) _) _
  have b1 : (((w1.alloc O1).alloc O2).alloc O3).heap[w1.heap.size]? = some O1 := blk_below (blk_new w1 O1) (below_alloc (below_alloc (Below.refl _ _) _) _)
  have b2 : (((w1.alloc O1).alloc O2).alloc O3).heap[w1.heap.size + 1]? = some O2 := by
    have := blk_below (blk_new (w1.alloc O1) O2) (below_alloc (Below.refl _ _) O3)
    rw [World.size_alloc] at this
    exact this
  have b3 : (((w1.alloc O1).alloc O2).alloc O3).heap[w1.heap.size + 1 + 1]? = some O3 := by
    have := blk_new ((w1.alloc O1).alloc O2) O3
    rw [World.size_alloc, World.size_alloc] at this
    exact this
  have hsz : (((w1.alloc O1).alloc O2).alloc O3).heap.size = w1.heap.size + 1 + 1 + 1 := by rw [World.size_alloc, World.size_alloc, World.size_alloc]
  rw [hsz]
  subst eO1 eO2 eO3
  refine ⟨_, rfl, ⟨⟨_, _, _, _, _, rfl, b3, b2, b1, blk_below h3 k1, Kd.R_below hR k1, by omega, by omega, by omega, by omega⟩, Nat.zero_le _⟩, below_step hbw k1, _, rfl⟩
set_option maxHeartbeats 4000000 in
set_option maxRecDepth 100000 in
theorem list_calls (A0 : Option Addr) (c0 : Nat) (l : List Int) (w : World) (hr0 : Kd.C (Kd.int .i64) w A0 l.length l) (hl : l.length ≤ 1048576) :
    Calls Try.prog 36 #[.slice A0 l.length c0] w fun e w' => ∃ d : Nat, e = .returned (.pointer (some ⟨d, 0, none⟩)) ∧ AlongAt w.heap.size w'.heap.size (.pointer (some ⟨d, 0, none⟩)) l false w' 0 ∧ Below w.heap.size w w' := by
  have HC := Aside0.mk (along_calls A0 c0 l false w hr0 hl)
  clear hr0
  go_enter Try.func36, Try.ntmps36
  go_wp2_with fail
  refine (HC.out).mono ?_
  rintro e w1 ⟨p, rfl, ha, hb, d, rfl⟩
  have H := Aside0.mk (And.intro ha hb)
  clear ha hb
  go_wp2
  go_ret
  exact ⟨_, rfl, H.out.1, H.out.2⟩
set_option maxHeartbeats 4000000 in
set_option maxRecDepth 100000 in
theorem loop_calls (A0 : Option Addr) (c0 : Nat) (l : List Int) (w : World) (hr0 : Kd.C (Kd.int .i64) w A0 l.length l) (hl : l.length ≤ 1048576) :
    Calls Try.prog 37 #[.slice A0 l.length c0] w fun e w' => ∃ d : Nat, e = .returned (.pointer (some ⟨d, 0, none⟩)) ∧ AlongAt w.heap.size w'.heap.size (.pointer (some ⟨d, 0, none⟩)) l true w' 0 ∧ Below w.heap.size w w' := by
  have HC := Aside0.mk (along_calls A0 c0 l true w hr0 hl)
  clear hr0
  go_enter Try.func37, Try.ntmps37
  go_wp2_with fail
  refine (HC.out).mono ?_
  rintro e w1 ⟨p, rfl, ha, hb, d, rfl⟩
  have H := Aside0.mk (And.intro ha hb)
  clear ha hb
  go_wp2
  go_ret
  exact ⟨_, rfl, H.out.1, H.out.2⟩
end Go.Proofs.Ytjlbimnafbngaaa.Pull
