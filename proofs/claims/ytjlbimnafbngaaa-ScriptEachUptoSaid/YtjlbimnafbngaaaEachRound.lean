/- The law ScriptEach: one of its three rounds. -/
import Derived.Test.YtjlbimnafbngaaaEachCalls
import Derived.Test.YtjlbimnafbngaaaPScriptEachx1
import Derived.Sort.CutIn
import Derived.Deep.DeepCutAuto
import Derived.Sort.QuietIn
namespace Go.Proofs.Ytjlbimnafbngaaa.Each
open Go.RowKit Go.Shelf Go.BigFrame Go.Proofs.YtjlbimnafbngaaaW.PrintWords Go.Proofs.YtjlbimnafbngaaaW.PrintLast Go.Proofs.Ytjlbimnafbngaaa.PScriptEach Go.Proofs.Ytjlbimnafbngaaa.BitMath
attribute [local go_sem] Oper.semAt_some
set_option linter.unusedVariables false
set_option linter.unusedSimpArgs false
/-! ### A quiet region in a round: as outside, where no operation is a 'defer' statement -/
section
variable {F : Fence} {n l : Nat} {P : Program} {ops : Array Oper} {C : World → Prop} {md : Region.Mode}
def noDefer (ops : Array Oper) : Bool := ops.all fun o => match o.op with | .defer _ => false | _ => true
theorem noDefer_at (h : noDefer ops = true) {i : Nat} {o : Oper} (ho : ops[i]? = some o) (c : Call) : o.op ≠ .defer c := by
  intro e
  obtain ⟨hi, hx⟩ := Array.getElem?_eq_some_iff.1 ho
  have := Array.all_eq_true.1 h i hi
  rw [hx, e] at this
  cases this
theorem quiet_round_op {o : Oper} {a : Act} {K : Act → Prop} {K' : Act → World → Prop} {Q' : Exit → Act → World → Prop} {w : World} (hro : F.round = some l) (hnd : ∀ c, o.op ≠ .defer c) (hw : C w) (h : ∀ a w', C w' → K a → K' a w')
    (ha : o.askedIn F P a C) (hh : o.quietIn F n P a C K) : o.wpIn F n P a w K' Q' := by
  obtain ⟨v, h1, h2⟩ := hh
  have h3 := h1 w hw
  unfold Oper.quietAtIn at h3
  unfold Oper.wpIn
  refine ⟨ha w hw, ?_⟩
  rw [hro, Oper.semAt_some l _ o hnd]
  generalize (execOp a.eval o).run P w = r at *
  cases r with
  | ok x w' =>
    cases x <;> simp only [Oper.quietUponIn] at h3 <;> simp only [Oper.uponIn]
    case value u => rw [h3.1, h3.2]; exact h _ _ hw h2
    case skip => rw [h3.1, ← h3.2]; exact h _ _ hw h2
    case enter f args =>
      rw [h3.1]
      exact ⟨h3.2.1, h3.2.2.mono fun e w'' ⟨he, hw''⟩ => by subst he; exact h _ _ hw'' h2⟩
  | halt x w' => simp only [Oper.quietUponIn] at h3
theorem quiet_round_at {i : Nat} {a : Act} {K : Act → Prop} {K' : Act → World → Prop} {Q' : Exit → Act → World → Prop} {w : World} (hro : F.round = some l) (hnd : noDefer ops = true) (hC : C w) (h : ∀ a w', C w' → K a → K' a w')
    (hh : qOpIn F n P ops C i K a) : wpOpIn F n P ops Q' i K' a w := by
  unfold qOpIn at hh
  unfold wpOpIn
  split
  · rename_i ho; simp only [ho] at hh; exact h _ _ hC hh
  · rename_i o ho
    simp only [ho] at hh
    obtain ⟨ha, hh⟩ := hh
    split
    · rename_i hw; simp only [hw, if_true] at hh; exact quiet_round_op hro (noDefer_at hnd ho) hC h ha hh
    · rename_i hw; simp only [hw] at hh; exact ⟨ha w hC, h _ _ hC hh⟩
theorem quiet_round_any {Q : Act → Prop} {Q' : Exit → Act → World → Prop} (hro : F.round = some l) (hnd : noDefer ops = true) (hQ : ∀ a w, C w → Q a → Q' .normal a w) : ∀ (fuel : Nat) (listed : Array Bool) (a : Act) (w : World), C w →
    wpAnyQIn F n P md ops C Q fuel listed a → wpAnyIn F n P md ops Q' fuel listed a w
  | 0, _, _, _, hw, h => ⟨h.1, hQ _ _ hw h.2⟩
  | fuel + 1, _, _, _, hw, h => ⟨fun h0 => hQ _ _ hw (h.1 h0), fun i hi => quiet_round_at hro hnd hw (fun a' w' hw' => quiet_round_any hro hnd hQ fuel _ a' w' hw') (h.2 i hi)⟩
theorem wpIn_region_quiet_round {id : Nat} {Q : Exit → Act → World → Prop} {a : Act} {w : World} {ls : List Oper} (hro : F.round = some l) (hm : P.follows .mixedOrders = true) (hB : Region.lexB .any ls.toArray = true) (hnd : noDefer ls.toArray = true)
    (h : wpQuietIn F n P ls.toArray (fun w' => ∃ n, w' = w.drewN n) (fun a' => ∀ w', (∃ n, w' = w.drewN n) → Q .normal a' w') ls a) : (Code.region id ls.toArray true).wpIn F n P Q a w := by
  have hB0 := hB
  simp only [Region.lexB, Bool.and_eq_true] at hB
  refine wpIn_region_any hm (quiet_round_any (C := fun w' => ∃ n, w' = w.drewN n) (Q := fun a' => ∀ w', (∃ n, w' = w.drewN n) → Q .normal a' w') hro hnd (fun _ w' hw' h => h w' hw') _ _ _ _ ⟨1, rfl⟩ ?_)
  have := wpAnyQIn_lex (F := F) (n := n) (C := fun w' => ∃ n, w' = w.drewN n) (md := .any) hB.1 ls 0 (Array.replicate ls.toArray.size false) a (by simp) (by simpa using hB.2) h
  simpa using this
end
/-- The bodies of a code's loops, in order. -/
def loopsOf : Code → List Code
  | .loop c => [c]
  | .seq a b => loopsOf a ++ loopsOf b
  | .block _ c => loopsOf c
  | .scope c => loopsOf c
  | .cond _ a b => loopsOf a ++ loopsOf b
  | _ => []
noncomputable def roundCode : Code := ((((Try.f7.body).map loopsOf).getD [])[1]?).getD .skip
def markOf (D : Nat) : Deferred := { target := .collected D, args := #[] }
/-- What the three rounds know: the worlds' facts at their head. -/
structure Known (A0 : Option Addr) (c0 : Nat) (s2 : Value) (p : List Int) (a st : Int) (b B8 Bw Bs : Nat) (sv : Value) (wl : World) : Prop where
  h3 : wl.heap[b]? = some (.cells #[.slice A0 p.length c0, s2] 24 (0, 0))
  h4 : wl.heap[b + 1]? = some (.cells #[.int .i64 a] 3 (0, 0))
  h5 : wl.heap[b + 1 + 1]? = some (.cells #[.int .i64 st] 3 (0, 0))
  h6 : wl.heap[b + 1 + 1 + 1]? = some (.cells #[.bool false] 4 (0, 0))
  h8 : wl.heap[B8]? = some (.cells #[.int .i64 (many p a)] 3 (0, 0))
  hw : wl.cell? ⟨Bw, 0, none⟩ = some (.int .i64 a)
  hs : wl.cell? ⟨Bs, 0, none⟩ = some sv
  bw : Bw < wl.heap.size
  bs : Bs < wl.heap.size
  hi : Ints wl.heap.size wl sv p
  hp : Kd.C (Kd.int .i64) wl A0 p.length p
  hl : p.length ≤ 1048576
/-- The frame at a round's head. -/
def frame (A0 A1 : Option Addr) (n0 c0 n1 c1 : Nat) (a st : Int) (b B7 B8 Bw Bs : Nat) (v10 : Value) (g : Nat) (f : Nat → Value) (Ds : List Nat) : Act :=
  { tmps := #[.agg #[.slice A0 n0 c0, .slice A1 n1 c1], .int .i64 a, .int .i64 st, .pointer (some ⟨b, 0, none⟩), .pointer (some ⟨b + 1, 0, none⟩), .pointer (some ⟨b + 1 + 1, 0, none⟩), .pointer (some ⟨b + 1 + 1 + 1, 0, none⟩), .pointer (some ⟨B7, 0, none⟩), .pointer (some ⟨B8, 0, none⟩), .func (.func 51) #[] #[.pointer (some ⟨Bw, 0, none⟩), .pointer (some ⟨Bs, 0, none⟩)], v10, .pointer (some ⟨g, 0, none⟩), f 12, f 13, f 14, f 15, f 16, f 17, f 18, f 19, f 20, f 21, f 22, f 23, f 24, f 25, f 26, f 27, f 28, f 29, f 30, f 31, f 32, f 33, f 34, f 35, f 36, f 37, f 38, f 39, f 40, f 41, f 42, f 43, f 44, f 45, f 46, f 47, f 48, f 49, f 50, f 51, f 52, f 53, f 54, f 55, f 56, f 57, f 58, f 59, f 60, f 61, f 62, f 63, f 64, f 65, f 66, f 67, f 68, f 69, f 70, f 71, f 72, f 73, f 74, f 75, f 76, f 77, f 78, f 79, f 80, f 81, f 82, f 83, f 84, f 85, f 86, f 87, f 88, f 89, f 90, f 91, f 92, f 93, f 94, f 95, f 96, f 97, f 98, f 99],
    defers := Ds.map markOf }
/-- What holds at a round's head; n: how many rounds are left. -/
def Inv (A0 A1 : Option Addr) (n0 c0 n1 c1 : Nat) (a st : Int) (b B7 B8 Bw Bs : Nat) (v10 : Value) (wl : World) (n : Nat) (a' : Act) (w' : World) : Prop :=
  ∃ (r g : Nat) (Ds : List Nat) (f : Nat → Value), r + n = 3 ∧ a' = frame A0 A1 n0 c0 n1 c1 a st b B7 B8 Bw Bs v10 g f Ds ∧ Below wl.heap.size wl w' ∧ w'.heap[g]? = some (.cells #[.int .i64 r] 3 (0, 0)) ∧ wl.heap.size ≤ g ∧ (∀ D, D ∈ Ds → w'.heap[D]? = some (.deferred (some [])) ∧ wl.heap.size ≤ D) ∧ Ds.Nodup
theorem inv_of {A0 A1 : Option Addr} {n0 c0 n1 c1 : Nat} {a st : Int} {b B7 B8 Bw Bs : Nat} {v10 : Value} {wl : World} {n : Nat} {a' : Act} {w' : World} (r g : Nat) (Ds : List Nat) (hr : r + n = 3)
    (ha : a' = frame A0 A1 n0 c0 n1 c1 a st b B7 B8 Bw Bs v10 g (fun i => a'.tmps.getD i undef) Ds) (h1 : Below wl.heap.size wl w') (h2 : w'.heap[g]? = some (.cells #[.int .i64 r] 3 (0, 0))) (h3 : wl.heap.size ≤ g)
    (h4 : ∀ D, D ∈ Ds → w'.heap[D]? = some (.deferred (some [])) ∧ wl.heap.size ≤ D) (h5 : Ds.Nodup) : Inv A0 A1 n0 c0 n1 c1 a st b B7 B8 Bw Bs v10 wl n a' w' :=
  ⟨r, g, Ds, _, hr, ha, h1, h2, h3, h4, h5⟩
theorem below_bump {m : Nat} {wl W : World} (h : Below m wl W) (hm : m ≤ wl.heap.size) (o : Obj) : Below m wl (W.alloc o) := h.alloc (Nat.le_trans hm h.size) _
theorem box_bump (W : World) (r : Nat) : (W.alloc (.cells #[.int .i64 ((r : Int) + 1)] 3)).heap[W.heap.size]? = some (.cells #[.int .i64 ((r + 1 : Nat) : Int)] 3 (0, 0)) := by
  rw [show ((r + 1 : Nat) : Int) = (r : Int) + 1 by omega]
  exact heap_alloc_new _ _
theorem keep_bump {W : World} {D : Nat} {o : Obj} (h : W.heap[D]? = some o) (o' : Obj) : (W.alloc o').heap[D]? = some o := blk_alloc h o'
theorem bad_of {pre : List (Nat × Int)} {f : Nat → Nat × Int} {x : Nat × Int} (h : pre = upto f pre.length) (hx : x ≠ f pre.length) : pre ++ [x] ≠ upto f (pre ++ [x]).length := by
  rw [List.length_append, List.length_singleton, upto_succ, ← h]
  intro e
  have := List.append_cancel_left e
  injection this with h1 _
  exact hx h1
theorem good_of {pre : List (Nat × Int)} {f : Nat → Nat × Int} {x : Nat × Int} (h : pre = upto f pre.length) (hx : x = f pre.length) : pre ++ [x] = upto f (pre ++ [x]).length := by
  rw [List.length_append, List.length_singleton, upto_succ, ← h, hx]
theorem mod31_calls (v a : Int) (h : 1 ≤ a ∧ a ≤ 64) (w : World) : Calls Try.prog 31 #[.int .i64 v, .int .i64 a] w fun e w' => e = .returned (.int .i64 (modF v a)) ∧ w' = w := by
  go_enter Try.func31, Try.ntmps31
  go_wp2
  · rename_i h2
    go_ret
    exact ⟨by unfold modF; rw [if_pos h2]; rfl, rfl⟩
  · rename_i h2
    go_ret
    exact ⟨by unfold modF; rw [if_neg (by omega)]; rfl, rfl⟩
set_option maxHeartbeats 8000000 in
set_option maxRecDepth 100000 in
theorem round_wp (A0 A1 : Option Addr) (c0 n1 c1 : Nat) (p : List Int) (a st : Int) (b B7 B8 Bw Bs : Nat) (sv v10 : Value) (wl : World) (hk : Known A0 c0 (.slice A1 n1 c1) p a st b B8 Bw Bs sv wl) (Q : Exit → Act → World → Prop)
    (hfin : ∀ a' w', Inv A0 A1 p.length c0 n1 c1 a st b B7 B8 Bw Bs v10 wl 0 a' w' → Q (.exit 2) a' w') (n : Nat) (a' : Act) (w' : World) (hI : Inv A0 A1 p.length c0 n1 c1 a st b B7 B8 Bw Bs v10 wl n a' w') :
    roundCode.wp Try.prog (Exit.then (fun a'' w'' => ∃ n', n' < n ∧ Inv A0 A1 p.length c0 n1 c1 a st b B7 B8 Bw Bs v10 wl n' a'' w'') Q) a' w' := by
  have HK := Aside0.mk hk
  clear hk
  obtain ⟨r, g, Ds, f, hr, rfl, hb, hg, hgl, hD, hnd⟩ := hI
  have HD := Aside0.mk (And.intro hD hnd)
  have HB := Aside0.mk hb
  have HG := Aside0.mk hg
  have HGl := Aside0.mk hgl
  clear hD hnd hb hg hgl
  generalize hJ : (fun a'' w'' => ∃ n', n' < n ∧ Inv A0 A1 p.length c0 n1 c1 a st b B7 B8 Bw Bs v10 wl n' a'' w'') = J
  have HJ := Aside0.mk hJ
  clear hJ
  have HF := Aside0.mk hfin
  clear hfin
  conv => arg 2; whnf
  unfold frame
  have x11 : w'.cell? ⟨g, 0, none⟩ = some (.int .i64 r) := (blk_cell HG.out 0).trans rfl
  by_cases h3 : r < 3
  · have hq : ∀ (fn : Fn) (x z : Array Value) (w : World), Sem.run Try.prog (binOp .eql 49 (.func fn x z) .nilFunc) w = .ok (.bool false) w := fun fn x z w => by kernel_rfl
    go_wp2
    obtain ⟨B0, hB0⟩ : ∃ B0, w'.heap.size = B0 := ⟨_, rfl⟩
    obtain ⟨W, hW⟩ : ∃ W, w'.alloc (Obj.cells #[Value.int IntKind.i64 0] 3) = W := ⟨_, rfl⟩
    have HbW := Aside0.mk (show Below B0 w' W from hW ▸ hB0 ▸ below_alloc (Below.refl w'.heap.size w') _)
    have HzW := Aside0.mk (show W.heap.size = B0 + 1 by rw [← hW, ← hB0]; simp)
    have HnW := Aside0.mk (show W.heap[B0]? = some (.cells #[.int .i64 0] 3 (0, 0)) by rw [← hW, ← hB0]; exact heap_alloc_new _ _)
    rw [hW, hB0]
    clear hW
    have HB0 := Aside0.mk hB0
    have HgB := Aside0.mk (show ¬ g = B0 by have := blk_lt HG.out; omega)
    have hbB0 : b + 1 + 1 + 1 < B0 := by have := blk_lt HK.out.h6; have := HB.out.size; omega
    clear hB0 x11
    have hmany : many p a ≤ 1048576 := by have := HK.out.hl; unfold many; split <;> omega
    have hwl : wl.heap.size ≤ B0 := by have := HB.out.size; have := HB0.out; omega
    have hbw := HK.out.bw
    have hbs := HK.out.bs
    have HBl := Aside0.mk (show Below wl.heap.size wl W from HB.out.trans (HbW.out.mono hwl))
    refine wpIn_wide.1 (wpIn_rangeFunc_ownF (n := 4) rfl (by decide) (gf := 51) (lb := #[.pointer (some ⟨Bw, 0, none⟩), .pointer (some ⟨Bs, 0, none⟩)]) rfl trivial (enters_of Try.func51 (by kernel_rfl) rfl)
      (each_stops 3 (by decide) Bw Bs B0 sv p a (by have := HK.out.hl; omega) W (by omega) (by omega) (by have := HzW.out; omega)
        ((HBl.out.cell (p := ⟨Bw, 0, none⟩) hbw).trans HK.out.hw) ((HBl.out.cell (p := ⟨Bs, 0, none⟩) hbs).trans HK.out.hs) ((HK.out.hi.below HBl.out).more hwl))
      belowK_t (belowK_b (by have := HzW.out; omega)) (Below.refl _ _) (fun _ => rfl)
      (fun pre W' => (pre = upto (gives p a) pre.length ∧ W'.cell? ⟨B0, 0, none⟩ = some (.int .i64 pre.length) ∧ W'.frozen? ⟨B0, 0, none⟩ = false) ∧ Below B0 w' W')
      (fun c pre W' => (c = .ret ∧ pre ≠ upto (gives p a) pre.length) ∨ (c = .exit 4 ∧ r = 1 ∧ (pre.length : Int) = st ∧ W'.cell? ⟨B0, 0, none⟩ = some (.int .i64 pre.length) ∧ W'.frozen? ⟨B0, 0, none⟩ = false ∧ Below B0 w' W'))
      (OwnFrom.and (Own.from (fun s A B row hs hg hr => ⟨hs.1, cell_kept hs.2.1 hg hr, (frozen_kept hs.2.1 hg hr).trans hs.2.2⟩) _) (ownFrom_below (by have := HB0.out; omega) (by have := HzW.out; omega)))
      (fun c s A B row hs hg hr => by
        rcases hs with hs | ⟨h1, h2, h3, h4, h5, h6⟩
        · exact .inl hs
        · exact .inr ⟨h1, h2, h3, cell_kept h4 hg (fun k e => (hr k e).2), (frozen_kept h4 hg (fun k e => (hr k e).2)).trans h5, ownFrom_below (β := Unit) (by have := HB0.out; omega) (by have := HzW.out; omega) () A B row h6 hg hr⟩)
      ⟨⟨rfl, (blk_cell HnW.out 0).trans rfl, blk_frozen HnW.out 0⟩, HbW.out⟩
      (fun x => { tmps := #[.agg #[.slice A0 p.length c0, .slice A1 n1 c1], .int .i64 a, .int .i64 st, .pointer (some ⟨b, 0, none⟩), .pointer (some ⟨b + 1, 0, none⟩), .pointer (some ⟨b + 1 + 1, 0, none⟩), .pointer (some ⟨b + 1 + 1 + 1, 0, none⟩), .pointer (some ⟨B7, 0, none⟩), .pointer (some ⟨B8, 0, none⟩), .func (.func 51) #[] #[.pointer (some ⟨Bw, 0, none⟩), .pointer (some ⟨Bs, 0, none⟩)], v10, .pointer (some ⟨g, 0, none⟩), .pointer (some ⟨B0, 0, none⟩), .int .i64 x.1, .int .i64 x.2, f 15, f 16, f 17, f 18, f 19, f 20, f 21, f 22, f 23, f 24, f 25, f 26, f 27, f 28, f 29, f 30, f 31, f 32, f 33, f 34, f 35, f 36, f 37, f 38, f 39, f 40, f 41, f 42, f 43, f 44, f 45, f 46, f 47, f 48, f 49, f 50, .int .i64 r, .bool true, f 53, f 54, .func (.func 51) #[] #[.pointer (some ⟨Bw, 0, none⟩), .pointer (some ⟨Bs, 0, none⟩)], .int .i64 x.1, .int .i64 x.2, f 58, f 59, f 60, f 61, f 62, f 63, f 64, f 65, f 66, f 67, f 68, f 69, f 70, f 71, f 72, f 73, f 74, f 75, f 76, f 77, f 78, f 79, f 80, f 81, f 82, f 83, f 84, f 85, f 86, f 87, f 88, f 89, f 90, f 91, f 92, f 93, f 94, f 95, f 96, f 97, f 98, f 99], defers := [] }) ?assign ?body ?done ?stop)
    case assign =>
      intro l x W2 K hK
      gi_wp2
      exact hK
    case body =>
      rintro l pre x W2 ⟨⟨hpre, hc, hf⟩, hbB⟩ hlt
      have HB2 := Aside0.mk (show Below wl.heap.size wl W2 from HB.out.trans (hbB.mono hwl))
      have ha : 1 ≤ a ∧ a ≤ 64 := by
        unfold many at hlt
        split at hlt
        · assumption
        · omega
      have hmp : many p a = p.length := by unfold many; rw [if_pos ha]
      have x3 : W2.cell? ⟨b, 0, none⟩ = some (.slice A0 p.length c0) := (blk_cell (blk_below HK.out.h3 HB2.out) 0).trans rfl
      have x4 : W2.cell? ⟨b + 1, 0, none⟩ = some (.int .i64 a) := (blk_cell (blk_below HK.out.h4 HB2.out) 0).trans rfl
      have x5 : W2.cell? ⟨b + 1 + 1, 0, none⟩ = some (.int .i64 st) := (blk_cell (blk_below HK.out.h5 HB2.out) 0).trans rfl
      have x6 : W2.cell? ⟨b + 1 + 1 + 1, 0, none⟩ = some (.bool false) := (blk_cell (blk_below HK.out.h6 HB2.out) 0).trans rfl
      have f6 : W2.frozen? ⟨b + 1 + 1 + 1, 0, none⟩ = false := blk_frozen (blk_below HK.out.h6 HB2.out) 0
      have x8 : W2.cell? ⟨B8, 0, none⟩ = some (.int .i64 (many p a)) := (blk_cell (blk_below HK.out.h8 HB2.out) 0).trans rfl
      have x11 : W2.cell? ⟨g, 0, none⟩ = some (.int .i64 r) := (blk_cell (blk_below HG.out (HB0.out.symm ▸ hbB)) 0).trans rfl
      have hC := Kd.C_below HK.out.hp HB2.out
      obtain ⟨ad, rfl, hx⟩ := (Kd.reads_of_C (d := (0 : Int)) hC).at_ (pre.length : Int) (by omega) (by omega)
      rw [Int.toNat_natCast] at hx
      have HPre := Aside0.mk hpre
      have HBB := Aside0.mk hbB
      have HMP := Aside0.mk hmp
      clear hpre hbB hC hmp
      have hrd : rdOf 0 p (pre.length : Int) = p[pre.length]?.getD 0 := by unfold rdOf; simp
      rw [hrd] at hx
      clear hrd
      obtain ⟨y, hy⟩ : ∃ y, p[pre.length]?.getD 0 = y := ⟨_, rfl⟩
      rw [hy] at hx
      have HY := Aside0.mk hy
      clear hy
      have hpl : (pre.length : Int) < (many p a : Int) := by omega
      have hml : (many p a : Int) ≤ 1048576 := by omega
      have t1 : decide ((many p a : Int) ≤ (pre.length : Int)) = false := decide_eq_false (by omega)
      have t1n : decide (many p a ≤ pre.length) = false := decide_eq_false (by omega)
      have q1 : pre.length < p.length := by have := HMP.out; omega
      have q2 : (pre.length : Int) < (p.length : Int) := by omega
      have q3 : (0 : Int) ≤ (pre.length : Int) := by omega
      have hmx : Try.prog.follows .mixedOrders = true := by kernel_rfl
      have hn4 : 1 ≤ 4 - 1 - 1 := by decide
      by_cases e1 : x.1 = pre.length
      · have t2 : ((x.1 : Int) != (pre.length : Int)) = false := by rw [e1]; simp
        have t2n : (x.1 != pre.length) = false := by rw [e1]; simp
        by_cases e2 : x.2 = modF y a
        · have t3 : (x.2 != modF y a) = false := by rw [e2]; simp
          have HX := Aside0.mk (And.intro e1 e2)
          clear e1 e2
          gi_wp2
          refine wpIn_region_quiet_round rfl hmx (by kernel_rfl) (by kernel_rfl) ?_
          repeat (gi_big_quiet_step (fail))
          refine wpQuietIn_want (fun _ _ _ _ => trivial) rfl (fun K hK => ?_)
          gi_big_quiet_op
          apply Exists.intro
          refine ⟨fun _ => ?_, ?_⟩
          · gi_at_call 31; refine CallsIn.quiet_of_same (CallsIn.inRound l (callsIn_wide.2 (mod31_calls _ a ha _)))
          refine hK _ ?_
          clear hK K
          repeat (gi_big_quiet_step (fail))
          refine wpQuietIn_nil ?_
          intro _ hw'
          obtain ⟨nq, hw''⟩ := hw'
          subst hw''
          obtain ⟨W3, hW3⟩ : ∃ W3, W2.drewN nq = W3 := ⟨_, rfl⟩
          have HK3 := Aside0.mk (show KeepsOthers W2 W3 from hW3 ▸ ⟨Nat.le_refl _, fun _ _ h _ => h⟩)
          have HB3 := Aside0.mk (show Below B0 W2 W3 from hW3 ▸ pw_below_drewN (Below.refl B0 W2) nq)
          replace x6 : W3.cell? ⟨b + 1 + 1 + 1, 0, none⟩ = some (.bool false) := by rw [← hW3]; exact x6
          have f6' : W3.frozen? ⟨b + 1 + 1 + 1, 0, none⟩ = false := by rw [← hW3]; exact f6
          replace x5 : W3.cell? ⟨b + 1 + 1, 0, none⟩ = some (.int .i64 st) := by rw [← hW3]; exact x5
          replace x11 : W3.cell? ⟨g, 0, none⟩ = some (.int .i64 r) := by rw [← hW3]; exact x11
          have hc' : W3.cell? ⟨B0, 0, none⟩ = some (.int .i64 pre.length) := by rw [← hW3]; exact hc
          have hf' : W3.frozen? ⟨B0, 0, none⟩ = false := by rw [← hW3]; exact hf
          rw [hW3]
          clear hW3 hc hf f6 x3 x4 x8 hx
          have hgB : ¬ g = B0 := HgB.out
          obtain ⟨W4, hW4⟩ : ∃ W4, W3.setCell ⟨B0, 0, none⟩ (.int .i64 ((pre.length : Int) + 1)) = W4 := ⟨_, rfl⟩
          have y11 : W4.cell? ⟨g, 0, none⟩ = some (.int .i64 r) := by rw [← hW4]; exact (World.cell?_setCell_other _ _ _ _ (by simp <;> omega)).trans x11
          have y5 : W4.cell? ⟨b + 1 + 1, 0, none⟩ = some (.int .i64 st) := by rw [← hW4]; exact (World.cell?_setCell_other _ _ _ _ (by simp <;> omega)).trans x5
          have y12 : W4.cell? ⟨B0, 0, none⟩ = some (.int .i64 ((pre.length : Int) + 1)) := by rw [← hW4]; exact World.cell?_setCell_same' _ _ _ (by rw [hc']; rfl)
          have z12 : W4.frozen? ⟨B0, 0, none⟩ = false := by rw [← hW4, World.frozen?_setCell]; exact hf'
          have HK4 := Aside0.mk (show KeepsOthers W2 W4 from hW4 ▸ HK3.out.trans (KeepsOthers.setCell _ _ _))
          have HB4 := Aside0.mk (show Below B0 W2 W4 from hW4 ▸ HB3.out.setCell (p := ⟨B0, 0, none⟩) (Nat.le_refl _) _)
          have HC4 := Aside0.mk (And.intro y12 z12)
          clear z12
          clear x11 x5
          by_cases hr1 : r = 1
          · have t4 : ((r : Int) == 1) = true := by simp; omega
            have t4n : (r == 1) = true := by simp; omega
            have HR := Aside0.mk hr1
            clear hr1
            by_cases hst : (pre.length : Int) + 1 = st
            · have t5 : ((pre.length : Int) + 1 == st) = true := by simp [hst]
              have HS := Aside0.mk hst
              clear hst
              gi_wp2
              exact ⟨HK4.out, .inr ⟨rfl, HR.out, (by have := HS.out; simp; omega), (by simpa using HC4.out.1), HC4.out.2, HBB.out.trans HB4.out⟩⟩
            · have t5 : ((pre.length : Int) + 1 == st) = false := by simp [hst]
              clear hst
              gi_wp2
              exact ⟨HK4.out, HB4.out, ⟨good_of HPre.out (by unfold gives; rw [HY.out]; exact Prod.ext HX.out.1 HX.out.2), (by simpa using HC4.out.1), HC4.out.2⟩, HBB.out.trans HB4.out⟩
          · have t4 : ((r : Int) == 1) = false := by simp; omega
            have t4n : (r == 1) = false := by simp; omega
            clear hr1
            gi_wp2
            exact ⟨HK4.out, HB4.out, ⟨good_of HPre.out (by unfold gives; rw [HY.out]; exact Prod.ext HX.out.1 HX.out.2), (by simpa using HC4.out.1), HC4.out.2⟩, HBB.out.trans HB4.out⟩
        · have t3 : (x.2 != modF y a) = true := by simp [e2]
          gi_wp2
          refine wpIn_region_quiet_round rfl hmx (by kernel_rfl) (by kernel_rfl) ?_
          repeat (gi_big_quiet_step (fail))
          refine wpQuietIn_want (fun _ _ _ _ => trivial) rfl (fun K hK => ?_)
          gi_big_quiet_op
          apply Exists.intro
          refine ⟨fun _ => ?_, ?_⟩
          · gi_at_call 31; refine CallsIn.quiet_of_same (CallsIn.inRound l (callsIn_wide.2 (mod31_calls _ a ha _)))
          refine hK _ ?_
          clear hK K
          repeat (gi_big_quiet_step (fail))
          refine wpQuietIn_nil ?_
          intro _ hw'
          obtain ⟨nq, hw''⟩ := hw'
          subst hw''
          obtain ⟨W3, hW3⟩ : ∃ W3, W2.drewN nq = W3 := ⟨_, rfl⟩
          have HK3 := Aside0.mk (show KeepsOthers W2 W3 from hW3 ▸ ⟨Nat.le_refl _, fun _ _ h _ => h⟩)
          have HB3 := Aside0.mk (show Below B0 W2 W3 from hW3 ▸ pw_below_drewN (Below.refl B0 W2) nq)
          replace x6 : W3.cell? ⟨b + 1 + 1 + 1, 0, none⟩ = some (.bool false) := by rw [← hW3]; exact x6
          have f6' : W3.frozen? ⟨b + 1 + 1 + 1, 0, none⟩ = false := by rw [← hW3]; exact f6
          replace x5 : W3.cell? ⟨b + 1 + 1, 0, none⟩ = some (.int .i64 st) := by rw [← hW3]; exact x5
          replace x11 : W3.cell? ⟨g, 0, none⟩ = some (.int .i64 r) := by rw [← hW3]; exact x11
          have hc' : W3.cell? ⟨B0, 0, none⟩ = some (.int .i64 pre.length) := by rw [← hW3]; exact hc
          have hf' : W3.frozen? ⟨B0, 0, none⟩ = false := by rw [← hW3]; exact hf
          rw [hW3]
          clear hW3 hc hf f6 x3 x4 x8 hx
          gi_wp2
          exact ⟨HK3.out.trans (KeepsOthers.setCell _ _ _), .inl ⟨rfl, bad_of HPre.out (fun e => e2 (HY.out ▸ congrArg Prod.snd e))⟩⟩
      · have t2 : ((x.1 : Int) != (pre.length : Int)) = true := by simp; omega
        have t2n : (x.1 != pre.length) = true := by simp; omega
        gi_wp2
        refine wpIn_region_quiet_round rfl hmx (by kernel_rfl) (by kernel_rfl) ?_
        repeat (gi_big_quiet_step (fail))
        refine wpQuietIn_skip (fun _ _ _ _ => trivial) rfl ?_
        simp only [Act.put, List.setIfInBounds_toArray, List.set_cons_zero, List.set_cons_succ]
        repeat (gi_big_quiet_step (fail))
        refine wpQuietIn_nil ?_
        intro _ hw'
        obtain ⟨nq, hw''⟩ := hw'
        subst hw''
        obtain ⟨W3, hW3⟩ : ∃ W3, W2.drewN nq = W3 := ⟨_, rfl⟩
        have HK3 := Aside0.mk (show KeepsOthers W2 W3 from hW3 ▸ ⟨Nat.le_refl _, fun _ _ h _ => h⟩)
        have HB3 := Aside0.mk (show Below B0 W2 W3 from hW3 ▸ pw_below_drewN (Below.refl B0 W2) nq)
        replace x6 : W3.cell? ⟨b + 1 + 1 + 1, 0, none⟩ = some (.bool false) := by rw [← hW3]; exact x6
        have f6' : W3.frozen? ⟨b + 1 + 1 + 1, 0, none⟩ = false := by rw [← hW3]; exact f6
        replace x5 : W3.cell? ⟨b + 1 + 1, 0, none⟩ = some (.int .i64 st) := by rw [← hW3]; exact x5
        replace x11 : W3.cell? ⟨g, 0, none⟩ = some (.int .i64 r) := by rw [← hW3]; exact x11
        have hc' : W3.cell? ⟨B0, 0, none⟩ = some (.int .i64 pre.length) := by rw [← hW3]; exact hc
        have hf' : W3.frozen? ⟨B0, 0, none⟩ = false := by rw [← hW3]; exact hf
        rw [hW3]
        clear hW3 hc hf f6 x3 x4 x8 hx
        gi_wp2
        exact ⟨HK3.out.trans (KeepsOthers.setCell _ _ _), .inl ⟨rfl, bad_of HPre.out (fun e => e1 (congrArg Prod.fst e))⟩⟩
    case done =>
      rintro D xs W3 hDl rfl ⟨⟨hpre, hc, hf⟩, hBW⟩ hKD
      rw [upto_length] at hc
      have HB3 := Aside0.mk (show Below wl.heap.size wl W3 from HB.out.trans (hBW.mono hwl))
      have x8 : W3.cell? ⟨B8, 0, none⟩ = some (.int .i64 (many p a)) := (blk_cell (blk_below HK.out.h8 HB3.out) 0).trans rfl
      have x5 : W3.cell? ⟨b + 1 + 1, 0, none⟩ = some (.int .i64 st) := (blk_cell (blk_below HK.out.h5 HB3.out) 0).trans rfl
      have x11 : W3.cell? ⟨g, 0, none⟩ = some (.int .i64 r) := (blk_cell (blk_below HG.out (HB0.out.symm ▸ hBW)) 0).trans rfl
      have HBW := Aside0.mk hBW
      have HKD := Aside0.mk (And.intro hKD hDl)
      clear hBW hKD hDl
      clear hpre hf
      have t1 : ((many p a : Int) != (many p a : Int)) = false := by simp
      have t1n : (many p a != many p a) = false := by simp
      go_wp2
      obtain rfl := HJ.out
      refine ⟨n - 1, by omega, inv_of (r + 1) W3.heap.size (D :: Ds) (by omega) (by rfl) ?_ ?_ ?_ ?_ ?_⟩
      · exact below_bump HB3.out (Nat.le_refl _) _
      · exact box_bump _ _
      · have := HB3.out.size; omega
      · intro D' hD'
        rcases List.mem_cons.1 hD' with rfl | hD'
        · exact ⟨keep_bump HKD.out.1 _, by have := HKD.out.2; have := HzW.out; omega⟩
        · have h1 := HD.out.1 D' hD'
          exact ⟨keep_bump (blk_below h1.1 (HB0.out.symm ▸ HBW.out)) _, h1.2⟩
      · refine List.nodup_cons.2 ⟨fun hin => ?_, HD.out.2⟩
        have h1 := blk_lt (HD.out.1 D hin).1
        have := HKD.out.2
        have := HzW.out
        have := HB0.out
        omega
    case stop =>
      rintro D c pre W3 hDl ⟨k, hk, rfl⟩ hIx hKD
      rw [upto_length] at hIx
      rcases hIx with ⟨_, hbad⟩ | ⟨rfl, hr1, hst, hc, hf, hBW⟩
      · exact absurd rfl hbad
      have HB3 := Aside0.mk (show Below wl.heap.size wl W3 from HB.out.trans (hBW.mono hwl))
      have x8 : W3.cell? ⟨B8, 0, none⟩ = some (.int .i64 (many p a)) := (blk_cell (blk_below HK.out.h8 HB3.out) 0).trans rfl
      have x5 : W3.cell? ⟨b + 1 + 1, 0, none⟩ = some (.int .i64 st) := (blk_cell (blk_below HK.out.h5 HB3.out) 0).trans rfl
      have x11 : W3.cell? ⟨g, 0, none⟩ = some (.int .i64 r) := (blk_cell (blk_below HG.out (HB0.out.symm ▸ hBW)) 0).trans rfl
      have HBW := Aside0.mk hBW
      have HKD := Aside0.mk (And.intro hKD hDl)
      clear hBW hKD hDl
      clear hf
      have t2 : ((k : Int) == st) = true := by simp [hst]
      have t3 : ((r : Int) == 1) = true := by simp; omega
      have t3n : (r == 1) = true := by simp; omega
      clear hst
      by_cases e1 : k = many p a
      · have t1 : ((k : Int) != (many p a : Int)) = false := by rw [e1]; simp
        have t1n : (k != many p a) = false := by rw [e1]; simp
        clear e1 hr1
        gi_wp2
        go_wp2
        obtain rfl := HJ.out
        refine ⟨n - 1, by omega, inv_of (r + 1) W3.heap.size (D :: Ds) (by omega) (by rfl) ?_ ?_ ?_ ?_ ?_⟩
        · exact below_bump HB3.out (Nat.le_refl _) _
        · exact box_bump _ _
        · have := HB3.out.size; omega
        · intro D' hD'
          rcases List.mem_cons.1 hD' with rfl | hD'
          · exact ⟨keep_bump HKD.out.1 _, by have := HKD.out.2; have := HzW.out; omega⟩
          · have h1 := HD.out.1 D' hD'
            exact ⟨keep_bump (blk_below h1.1 (HB0.out.symm ▸ HBW.out)) _, h1.2⟩
        · refine List.nodup_cons.2 ⟨fun hin => ?_, HD.out.2⟩
          have h1 := blk_lt (HD.out.1 D hin).1
          have := HKD.out.2
          have := HzW.out
          have := HB0.out
          omega
      · have t1 : ((k : Int) != (many p a : Int)) = true := by simp; omega
        have t1n : (k != many p a) = true := by simp; omega
        clear e1 hr1
        gi_wp2
        go_wp2
        obtain rfl := HJ.out
        refine ⟨n - 1, by omega, inv_of (r + 1) W3.heap.size (D :: Ds) (by omega) (by rfl) ?_ ?_ ?_ ?_ ?_⟩
        · exact below_bump HB3.out (Nat.le_refl _) _
        · exact box_bump _ _
        · have := HB3.out.size; omega
        · intro D' hD'
          rcases List.mem_cons.1 hD' with rfl | hD'
          · exact ⟨keep_bump HKD.out.1 _, by have := HKD.out.2; have := HzW.out; omega⟩
          · have h1 := HD.out.1 D' hD'
            exact ⟨keep_bump (blk_below h1.1 (HB0.out.symm ▸ HBW.out)) _, h1.2⟩
        · refine List.nodup_cons.2 ⟨fun hin => ?_, HD.out.2⟩
          have h1 := blk_lt (HD.out.1 D hin).1
          have := HKD.out.2
          have := HzW.out
          have := HB0.out
          omega
  · go_wp2
    exact HF.out _ _ (inv_of r g Ds (by omega) (by rfl) HB.out HG.out HGl.out HD.out.1 HD.out.2)
end Go.Proofs.Ytjlbimnafbngaaa.Each
