/- What Encode writes Decode reads as the same script, and that script's text is the same again; what Decode reads of any text is so, too (a tied card). It holds where the listed tables read as the program's text lays them. -/
import Derived.Lib.SmallJoins
import Derived.SizedLaws
import Derived.ChangeSame
import Derived.Test.YtjlbimnafbngaaaDoorWWords
import Derived.Test.YtjlbimnafbngaaaDoorWMore
import Derived.Test.YtjlbimnafbngaaaDoorRows
import Derived.Test.YtjlbimnafbngaaaDoorBitMath
import Derived.WalkKit
import Derived.ProofKit
import Derived.OpenShut
import Derived.ShutString
import Derived.ChangeOld
import Derived.Below
import Derived.Test.YtjlbimnafbngaaaDoorRoundLaw
import Derived.LaidMore
import Derived.Test.YtjlbimnafbngaaaDoorCards
import Derived.Test.YtjlbimnafbngaaaDoorTie
import Derived.Deep.DeepHandedRow
namespace Go.Proofs.YtjlbimnafbngaaaDoor.Open
open Go.ChangeShapes Go.WideShapes Go.Deep Go.Joins Go.RowKit Go.Proofs.YtjlbimnafbngaaaDoorW.PrintWords

theorem list_of {α : Type} {Q : Nat → α → Prop} (n : Nat) (h : ∀ i, i < n → ∃ x, Q i x) : ∃ l : List α, l.length = n ∧ ∀ (i : Nat) (x : α), l[i]? = some x → Q i x := by
  induction n with
  | zero => exact ⟨[], rfl, fun i x h => by simp at h⟩
  | succ n ih =>
    obtain ⟨l, hl, hq⟩ := ih (fun i hi => h i (by omega))
    obtain ⟨x, hx⟩ := h n (by omega)
    refine ⟨l ++ [x], by simp [hl], fun i y hy => ?_⟩
    rcases Nat.lt_or_ge i n with hi | hi
    · rw [List.getElem?_append_left (by omega)] at hy
      exact hq i y hy
    · have hi2 := (List.getElem?_eq_some_iff.1 hy).1
      simp at hi2
      obtain rfl : i = n := by omega
      rw [List.getElem?_append_right (by omega), hl, Nat.sub_self] at hy
      simp at hy
      subst hy
      exact hx
section
variable {H : Type} {enc : TypeId × Value → H} {P : Program} {w : World} {base : Nat} {spare : Nat → Bool} {held : Bool} {α : Type}
/-- A slice that came in, by its elements' kind. -/
theorem open_row {d : Kd α} {t e : TypeId} {fuel : Nat} {A : Option Addr} {n c : Nat} {x : DataW H × List MemPlace} (ht : P.underlying t = some (.slice e)) (hc : P.cellsOf e = d.sz)
    (hop : ∀ fuel cs y, DataW.trod enc P w base spare held fuel e cs = some y → ∃ x : α, d.K w x cs) (h : DataW.trod enc P w base spare held fuel t [.slice A n c] = some x) :
    ∃ l : List α, l.length = n ∧ n ≤ c ∧ d.C w A l.length l ∧ ((x.1 = .nil ∧ n = 0) ∨ ∃ elems sp, x.1 = .slice elems sp ∧ elems.length = n) := by
  rcases open_slice ht h with ⟨hcs, hx⟩ | ⟨a, len, cap, m, f, D, Pl, hcs, hb, hl, hm, hmm, hx, hi⟩
  · simp at hcs
    obtain ⟨rfl, rfl, rfl⟩ := hcs
    exact ⟨[], rfl, Nat.le_refl _, ⟨rfl, by simp, fun h => absurd h (Nat.lt_irrefl 0)⟩, .inl ⟨by rw [hx], rfl⟩⟩
  · simp at hcs
    obtain ⟨rfl, rfl, rfl⟩ := hcs
    have hle : n ≤ m := by rw [hmm]; split <;> omega
    obtain ⟨l, hll, hq⟩ := list_of (Q := fun i (x : α) => ∃ cs', (cs'.length = d.sz ∧ ∀ j, j < d.sz → w.cell? ((a.add (i * d.sz)).add j) = cs'[j]?) ∧ d.K w x cs') n (fun i hin => by
      obtain ⟨cs', h1, h2⟩ := hi i (by omega)
      obtain ⟨y, hy⟩ := hop _ _ _ h2
      obtain ⟨_, h3, h4⟩ := World.cells?_some h1
      rw [hc] at h3 h4
      exact ⟨y, cs', ⟨h3, h4⟩, hy⟩)
    refine ⟨l, hll, hl, ⟨rfl, by rw [hll]; simp only [maxLen] at hm; omega, fun _ => ⟨a, rfl, fun j p hj => ?_⟩⟩, .inr ⟨_, _, by rw [hx], by simp⟩⟩
    obtain ⟨cs', ⟨h3, h4⟩, hK⟩ := hq j p hj
    refine ⟨cs', h3, hK, fun i u hu => ?_⟩
    have hil := (List.getElem?_eq_some_iff.1 hu).1
    rw [← Deep.add_add, h4 i (by omega), hu]
/-- A slice that came in, by its elements' kind. -/
theorem open_row_in {d : Kd α} {t e : TypeId} {fuel : Nat} {A : Option Addr} {n c : Nat} {x : DataW H × List MemPlace} (ht : P.underlying t = some (.slice e)) (hc : P.cellsOf e = d.sz)
    {G : α → Prop} (hop : ∀ fuel cs y, DataW.trod enc P w base spare held fuel e cs = some y → ∃ x : α, d.K w x cs ∧ G x) (h : DataW.trod enc P w base spare held fuel t [.slice A n c] = some x) :
    ∃ l : List α, l.length = n ∧ n ≤ c ∧ d.C w A l.length l ∧ (∀ x, x ∈ l → G x) ∧ ((x.1 = .nil ∧ n = 0) ∨ ∃ elems sp, x.1 = .slice elems sp ∧ elems.length = n) := by
  rcases open_slice ht h with ⟨hcs, hx⟩ | ⟨a, len, cap, m, f, D, Pl, hcs, hb, hl, hm, hmm, hx, hi⟩
  · simp at hcs
    obtain ⟨rfl, rfl, rfl⟩ := hcs
    exact ⟨[], rfl, Nat.le_refl _, ⟨rfl, by simp, fun h => absurd h (Nat.lt_irrefl 0)⟩, (fun x hx => by cases hx), .inl ⟨by rw [hx], rfl⟩⟩
  · simp at hcs
    obtain ⟨rfl, rfl, rfl⟩ := hcs
    have hle : n ≤ m := by rw [hmm]; split <;> omega
    obtain ⟨l, hll, hq⟩ := list_of (Q := fun i (x : α) => ∃ cs', (cs'.length = d.sz ∧ ∀ j, j < d.sz → w.cell? ((a.add (i * d.sz)).add j) = cs'[j]?) ∧ d.K w x cs' ∧ G x) n (fun i hin => by
      obtain ⟨cs', h1, h2⟩ := hi i (by omega)
      obtain ⟨y, hy⟩ := hop _ _ _ h2
      obtain ⟨_, h3, h4⟩ := World.cells?_some h1
      rw [hc] at h3 h4
      exact ⟨y, cs', ⟨h3, h4⟩, hy⟩)
    refine ⟨l, hll, hl, ⟨rfl, by rw [hll]; simp only [maxLen] at hm; omega, fun _ => ⟨a, rfl, fun j p hj => ?_⟩⟩, (fun x hx2 => by obtain ⟨j, hj⟩ := List.mem_iff_getElem?.1 hx2; obtain ⟨_, _, _, hg⟩ := hq j x hj; exact hg), .inr ⟨_, _, by rw [hx], by simp⟩⟩
    obtain ⟨cs', ⟨h3, h4⟩, hK, _⟩ := hq j p hj
    refine ⟨cs', h3, hK, fun i u hu => ?_⟩
    have hil := (List.getElem?_eq_some_iff.1 hu).1
    rw [← Deep.add_add, h4 i (by omega), hu]
theorem open_int_in {k : IntKind} {e : TypeId} (he : P.underlying e = some (.int k)) (fuel : Nat) (cs : List Value) (y : DataW H × List MemPlace) (h : DataW.trod enc P w base spare held fuel e cs = some y) : ∃ x : Int, (Kd.int k).K w x cs ∧ (Lit.int k x).wf = true := by
  obtain ⟨n, hn, _, hw⟩ := DataW.trod_int he h
  exact ⟨n, hn, hw⟩
end
end Go.Proofs.YtjlbimnafbngaaaDoor.Open
namespace Go.Proofs.YtjlbimnafbngaaaDoor.ScriptOpen
open Go.ChangeShapes Go.WideShapes Go.Deep Go.Joins Go.RowKit Go.Proofs.YtjlbimnafbngaaaDoorW.PrintWords Go.Proofs.YtjlbimnafbngaaaDoor.Open

/-- What a slice's datum says of its length. -/
def Long {H : Type} (x : DataW H) (n : Nat) : Prop := (x = .nil ∧ n = 0) ∨ ∃ elems sp, x = .slice elems sp ∧ elems.length = n
section
variable {H : Type} {enc : TypeId × Value → H} {W : World} {b0 base : Nat} {spare : Nat → Bool} {held : Bool}
theorem open_script {v : Value} {d : DataW H} {p : List MemPlace} (hv : Value.okWide Tryd.prog W .any b0 24 v) (h : DataW.Trod enc Tryd.prog W base spare held 24 v d p) :
    ∃ (A0 : Option Addr) (c0 : Nat) (l0 : List Int) (A1 : Option Addr) (c1 : Nat) (l1 : List Int), v = .agg #[.slice A0 l0.length c0, .slice A1 l1.length c1] ∧
      Kd.C (Kd.int .i64) W A0 l0.length l0 ∧ l0.length ≤ c0 ∧ Kd.C (Kd.int .i64) W A1 l1.length l1 ∧ l1.length ≤ c1 ∧ (∀ x, x ∈ l0 → BitMath.In64 x) ∧ (∀ x, x ∈ l1 → BitMath.In64 x) ∧
      ∃ d0 d1 : DataW H, d = .agg [d0, d1] ∧ Long d0 l0.length ∧ Long d1 l1.length := by
  obtain ⟨v0, v1, y0, y1, n, rfl, hd, hp, h0, h1⟩ := open_agg2 Tryd.underlying24 (by kernel_rfl) (by kernel_rfl) hv h
  obtain ⟨A0, n0, c0, e0⟩ := slice_form Tryd.underlying22 h0
  obtain ⟨A1, n1, c1, e1⟩ := slice_form Tryd.underlying22 h1
  obtain rfl := List.head_eq_of_cons_eq e0
  obtain rfl := List.head_eq_of_cons_eq e1
  obtain ⟨l0, rfl, hc0, hC0, hg0, hx0⟩ := open_row_in (d := Kd.int .i64) Tryd.underlying22 (by kernel_rfl) (open_int_in Tryd.underlying3) h0
  obtain ⟨l1, rfl, hc1, hC1, hg1, hx1⟩ := open_row_in (d := Kd.int .i64) Tryd.underlying22 (by kernel_rfl) (open_int_in Tryd.underlying3) h1
  exact ⟨A0, c0, l0, A1, c1, l1, rfl, hC0, hc0, hC1, hc1, (fun x hx => BitMath.in64_of_wf (hg0 x hx)), (fun x hx => BitMath.in64_of_wf (hg1 x hx)), y0.1, y1.1, hd, hx0, hx1⟩
end
end Go.Proofs.YtjlbimnafbngaaaDoor.ScriptOpen
namespace Go.Proofs.YtjlbimnafbngaaaDoor.scriptRound
open Go.ChangeShapes Go.WideShapes Go.ChangeAt Go.RowKit
open Go.ChangeMaps (open_string shut_string)
set_option linter.unusedVariables false
theorem own : ownKnob Tryd.prog.godebug = none := by kernel_rfl
theorem laid_met (os : Os) (args : Array Value) : laidMetH Tryd.prog Rows.scriptRoundRow.laid ((World.doorLaid Tryd.prog 41 os).forCall (fun _ _ => 0) ⟨#[], args, []⟩).memory :=
  laidMetH_of_parts3 (fuel := 8) (laidMet_of_run' 8 (by kernel_rfl) (by kernel_rfl)) (by kernel_rfl) (by kernel_rfl)
theorem laidOut : laidOutB Tryd.prog = true := by kernel_rfl
theorem len_one {H : Type} {d : DataW H} {n : Nat} (hL : ScriptOpen.Long d n) (hw : (DataW.weights Tryd.prog 22 d).all (· ≤ reachBytes) = true) : n ≤ 140737488355327 := by
  rcases hL with ⟨_, rfl⟩ | ⟨elems, sp, rfl, rfl⟩
  · omega
  · have hb : Tryd.prog.bytesOf 3 = 8 := by kernel_rfl
    simp only [DataW.weights, Tryd.underlying22, List.all_cons, Bool.and_eq_true, hb] at hw
    have h1 := of_decide_eq_true hw.1
    unfold reachBytes at h1
    omega
theorem len_two {H : Type} {d0 d1 dx : DataW H} {ts : List TypeId} {n0 n1 : Nat} (hsz : (DataW.weightsEach Tryd.prog ([24, 9] ++ ts) ([.agg [d0, d1], dx] ++ [])).all (· ≤ reachBytes) = true) (h0 : ScriptOpen.Long d0 n0) (h1 : ScriptOpen.Long d1 n1) : n0 + n1 ≤ 9223372036854775807 := by
  simp only [List.cons_append, List.nil_append, List.append_nil, DataW.weightsEach, List.all_append, Bool.and_eq_true] at hsz
  have h := hsz.1
  simp only [DataW.weights, Tryd.underlying24] at h
  simp only [List.map_cons, List.map_nil, DataW.weightsEach, List.all_append, Bool.and_eq_true] at h
  have := len_one h0 h.1
  have := len_one h1 h.2.1
  omega
theorem reads (os : Os) {H : Type} (enc : TypeId × Value → H) : ∃ places, DataW.whole enc Tryd.prog ((World.doorLaid Tryd.prog 41 os).forCall (fun _ _ => 0) ⟨#[], #[.agg #[.slice none 0 0, .slice none 0 0], .string ByteArray.empty], []⟩).memory Tryd.f5.params.toList Rows.scriptRoundSpec.vars false (#[.agg #[.slice none 0 0, .slice none 0 0], .string ByteArray.empty] : Array Value).toList 8 = some (([.agg [.nil, .nil], .lit (.string [])] : List (DataW H)), [], places) :=
  ⟨[], by kernel_rfl⟩
set_option maxRecDepth 100000 in
theorem lifted (os : Os) (started : os.Started) (H : Type) (enc : TypeId × Value → H) (F : Stop.Interp) :
    ReturnsInHanded {} Tryd.checked os 5 .any ((OpenSpec.ofChange Rows.scriptRoundSpec).preRow enc Tryd.prog Tryd.f5 Rows.scriptRoundRow.domain false Rows.scriptRoundRow.laid) (((OpenSpec.ofChange Rows.scriptRoundSpec).at F).post enc Tryd.prog Tryd.f5 false true false false) := by
  obtain ⟨places, hx⟩ := reads os enc
  refine returnsInHanded_of_row (C := Tryd.checked) (s := (OpenSpec.ofChange Rows.scriptRoundSpec)) own started (by kernel_rfl) Tryd.func5
    (witness_row_at (enc := enc) (C := Tryd.checked) false (World.doorLaid Tryd.prog 41 os) #[.agg #[.slice none 0 0, .slice none 0 0], .string ByteArray.empty] rfl (by kernel_rfl) (by kernel_rfl) (by kernel_rfl)
      (OpenSpec.preRow_of_cond 8 hx (by kernel_rfl) (fun k hk => by cases hk) (by kernel_rfl) (laid_met os _))) ?_
  intro W base args ds gs before hval0 hW hcnd hk hsz0 hL _ _
  have hsz : (DataW.weightsEach Tryd.prog (Tryd.f5.params.toList ++ Rows.scriptRoundSpec.plain.varTypes Tryd.prog) (ds ++ gs)).all (· ≤ reachBytes) = true := hsz0
  have hval : ∀ (j : Nat) t v, Tryd.f5.params[j]? = some t → args[j]? = some v → Value.okWide Tryd.prog W .any base t v := hval0
  have hW' := hW
  obtain ⟨p, q, hA0, hV, rfl, hfz, hnd⟩ := hW
  have hA : DataW.TrodAll enc Tryd.prog W 0 (fun _ => true) true Tryd.f5.params.toList args.toList ds p := hA0
  rw [Tryd.params5] at hA hval hsz
  obtain ⟨v0, vs0, d0, ds0, p0, q0, hargs, rfl, rfl, h0, r0⟩ := trodAll_cons hA
  obtain ⟨v1, vs1, d1, ds1, p1, q1, rfl, rfl, rfl, h1, r1⟩ := trodAll_cons r0
  obtain ⟨rfl, rfl, rfl⟩ := trodAll_nil r1
  obtain rfl : args = #[v0, v1] := by cases args; simp_all
  obtain ⟨rfl, rfl⟩ := trodVars_none hV
  have k0 := h0
  have lt0 : ∀ x ∈ p0, x.block < W.heap.size := by obtain ⟨m, hm⟩ := k0; exact DataW.trod_lt m _ _ _ hm
  obtain ⟨A0, c0, l0, A1, c1, l1, rfl, h00, h01, h10, h11, g0, g1, d0, d1, rfl, hx0, hx1⟩ := ScriptOpen.open_script (hval 0 24 v0 rfl rfl) h0
  obtain ⟨a1, rfl, rfl, rfl, y1⟩ := open_string Tryd.underlying9 (hval 1 9 v1 rfl rfl) h1
  have w1 : a1.size ≤ 140737488351232 := by
    have z := sized_string hsz (j := 1) (t := 9) rfl rfl
    rw [Array.length_toList] at z
    exact z
  have hmx := len_two hsz hx0 hx1
  clear hA0 hval0 hsz0 hsz
  refine (Dec.round_calls A0 c0 l0 A1 c1 l1 a1 W h00 h01 h10 h11 (by omega) g0 g1 (Fmt.laid hL) hmx).mono fun e W' ⟨he, bel⟩ => ?_
  subst he
  exact ⟨_, rfl, _, _, _, [], _, [], hW', trodAll_mk1 (shut_bool Tryd.underlying4 _), (trodAll_cons_mk (Below.trod laidOut (by kernel_rfl) (of_decide_eq_true (by kernel_rfl)) k0 bel lt0) (trodAll_cons_mk (shut_string Tryd.underlying9 y1) trodAll_mk0)), rfl, bel.frame _, fun h => by cases h⟩
theorem over : Rows.scriptRoundRow.holds Tryd.pinned (OpenSpec.ofChange Rows.scriptRoundSpec) :=
  OpenClaim.holds_of_cond 5 Tryd.f5 rfl rfl rfl rfl rfl rfl rfl ⟨rfl, rfl, rfl, rfl, rfl⟩ rfl rfl rfl rfl rfl (by kernel_rfl) Tryd.func5 (by kernel_rfl)
    (of_decide_eq_true (by kernel_rfl)) (by unfold Func.isWrapper; first | (rw [if_pos (by decide +kernel)]; kernel_rfl) | (rw [if_neg (by decide +kernel)]; exact ⟨rfl, rfl⟩))
    (fun os started H enc _ F => by rw [OpenClaim.pre_eq_preRow]; exact lifted os started H enc F)
theorem said : Rows.ScriptRoundSaid := over
theorem plain (f : FuncId) (fn : Func) (hf : Tryd.pinned.checked.prog.funcNamed "plunder/plunderlaw10.ScriptRound" = some f) (hfn : Tryd.pinned.checked.prog.funcs[f]? = some fn) :
    true = Tryd.pinned.checked.prog.looks [] ∧ ∀ (j : Nat) t, fn.params[j]? = some t → Tryd.pinned.checked.prog.wantsStandIn t = false := by
  obtain rfl : f = 5 := Option.some.inj ((show Tryd.prog.funcNamed "plunder/plunderlaw10.ScriptRound" = some 5 by kernel_rfl).symm.trans hf) |>.symm
  obtain rfl : fn = Tryd.f5 := (Option.some.inj (Tryd.func5.symm.trans hfn)).symm
  refine ⟨by kernel_rfl, fun j t ht => ?_⟩
  rw [Tryd.params5] at ht
  have ht2 := Array.mem_of_getElem? ht
  have ht3 : t = 24 ∨ t = 9 := by simpa [or_assoc] using ht2
  rcases ht3 with rfl | rfl
  · exact (show Tryd.prog.wantsStandIn 24 = false by kernel_rfl)
  · exact (show Tryd.prog.wantsStandIn 9 = false by kernel_rfl)
theorem proved : Rows.ScriptRoundCardSaid :=
  Claim7.holds_tied_plain_at .later [] _ _ _ _ said (fun _ h => by cases h) (by kernel_rfl) (fun _ h => by cases h) scriptRound_row_tie rfl ⟨rfl, rfl⟩ (by kernel_rfl) rfl plain (by kernel_rfl)
#print axioms proved
end Go.Proofs.YtjlbimnafbngaaaDoor.scriptRound
namespace Go.Proofs.YtjlbimnafbngaaaDoor
/-- The card, under a short name, for the claim. -/
theorem scriptRound_holds : Rows.ScriptRoundCardSaid := scriptRound.proved
end Go.Proofs.YtjlbimnafbngaaaDoor
