/- What the operations with a unit answer: plain facts. -/
import Derived.Test.YtamfkglnejhjdaaDoorRows
import Derived.WalkKit
import Derived.ProofKit
import Derived.OpenShut
import Derived.Laws.Rows
import Derived.Lib.LaidTab
import Derived.Below
import Derived.RowKit3
import Derived.MakeChecks
import Derived.Lib.Hide
import Derived.LaidSub
import Derived.Test.YtamfkglnejhjdaaDoorRefOpsB
import Derived.Test.YtamfkglnejhjdaaDoorMon
import Derived.Test.YtamfkglnejhjdaaDoorSerA
namespace Go.Proofs.YtamfkglnejhjdaaDoor.Tab
open Go.ChangeShapes Go.WideShapes Go.ChangeAt Go.RowKit
def unitsV : Array Value := #[.int .i64 0, .int .i64 0, .int .i64 2, .int .i64 1, .int .i64 5, .int .i64 (-1), .int .i64 6, .int .i64 0, .int .i64 7, .int .i64 0, .int .i64 10, .int .i64 9223372036854775807, .int .i64 11, .int .i64 (-9223372036854775808)]

def UnitsAt (W : World) : Prop := ∃ t fr, W.heap[0]? = some (.cells unitsV t fr)

theorem gUnits : Tryd.prog.globalNamed "plunder/ops.units" = some 0 := by kernel_rfl
theorem tUnits : (Tryd.prog.globals[0]?).map (·.type) = some 90 := by kernel_rfl
theorem c90 : Tryd.prog.cellsOf 90 = 14 := by kernel_rfl
theorem c89 : Tryd.prog.cellsOf 89 = 2 := by kernel_rfl
theorem cells_of_pairs {H : Type} {enc : TypeId × Value → H} {P : Program} {w : World} {base : Nat} {sp : Nat → Bool} {held : Bool} {fuel : Nat} {t e : TypeId} {n : Nat} {cs : List Value} {L : List (Int × Int)} {p : List MemPlace} {f0 f1 : Field}
  (ht : P.underlying t = some (.array n e)) (he : P.underlying e = some (.struct #[f0, f1])) (hce : P.cellsOf e = 2) (hct : P.cellsOf t = n * 2)
  (h0 : P.underlying f0.type = some (.int .i64)) (h1 : P.underlying f1.type = some (.int .i64)) (o0 : f0.offset = 0) (o1 : f1.offset = 1) (s0 : P.cellsOf f0.type = 1) (s1 : P.cellsOf f1.type = 1)
  (h : DataW.trod enc P w base sp held fuel t cs = some (.agg (L.map fun b => .agg [.lit (.int .i64 b.1), .lit (.int .i64 b.2)]), p)) : cs = L.flatMap fun b => [Value.int .i64 b.1, Value.int .i64 b.2] := by
 obtain ⟨xs, m, _, hx, hl, hn, hel⟩ := DataW.trod_array ht h
 have hxs : xs.map (·.1) = L.map fun b => (DataW.agg [.lit (.int .i64 b.1), .lit (.int .i64 b.2)] : DataW H) := by
  have := congrArg Prod.fst hx
  simpa using this.symm
 have hzl : L.length = n := by
  have := congrArg List.length hxs
  simp at this
  omega
 rw [hct] at hl
 have key : ∀ i, i < n → (cs.drop (i * 2)).take 2 = [Value.int .i64 (L.getD i (0, 0)).1, Value.int .i64 (L.getD i (0, 0)).2] := by
  intro i hi
  have h2 := hel i hi
  rw [hce] at h2
  have hxi : xs[i]? = some (xs[i]'(by omega)) := List.getElem?_eq_getElem (by omega)
  rw [hxi] at h2
  obtain ⟨y0, y1, q, hd, hlen, e0, e1⟩ := trod_struct2 he h2
  rw [o0, s0] at e0
  rw [o1, s1] at e1
  obtain ⟨a, ca, da, _⟩ := DataW.trod_int h0 e0
  obtain ⟨b, cb, db, _⟩ := DataW.trod_int h1 e1
  have h3 : (xs.map (·.1))[i]? = some (DataW.agg [.lit (.int .i64 a), .lit (.int .i64 b)] : DataW H) := by simp [hxi, hd, da, db]
  rw [hxs] at h3
  simp only [List.getElem?_map, Option.map_eq_some_iff, DataW.agg.injEq, List.cons.injEq, DataW.lit.injEq, Lit.int.injEq, true_and, and_true] at h3
  obtain ⟨z, hz, ea, eb⟩ := h3
  have hg : L.getD i (0, 0) = z := by simp [List.getD, hz]
  rw [hg, ea, eb]
  generalize hq : (cs.drop (i * 2)).take 2 = q at *
  rw [hce] at hlen
  match q, hlen with
  | [u, v], _ =>
   simp at ca cb
   simp [ca, cb]
 clear hel hx hxs h hn ht hct
 induction L generalizing cs n with
 | nil =>
  simp at hzl
  subst hzl
  simpa using hl
 | cons z r ih =>
  obtain ⟨n, rfl⟩ : ∃ k, n = k + 1 := ⟨n - 1, by simp at hzl; omega⟩
  have k0 := key 0 (by omega)
  have hr := ih (cs := cs.drop 2) (n := n) (by simp; omega) (by simp at hzl; omega) (fun i hi => by
   have := key (i + 1) (by omega)
   rw [List.drop_drop, show 2 + i * 2 = (i + 1) * 2 from by omega, this]
   simp [List.getD])
  rw [← List.take_append_drop 2 cs, hr]
  simp at k0
  simp [k0]

theorem block_of_var {P : Program} {W : World} {name : String} {g : Nat} {cs : Array Value} (hg : P.globalNamed name = some g) (h : W.var? P name = some cs) : ∃ t fr, W.heap[g]? = some (.cells cs t fr) := by
 simp only [World.var?, hg, Option.bind_some] at h
 split at h
 ·rename_i cs' t fr hb
  obtain rfl := Option.some.inj h
  exact ⟨t, fr, hb⟩
 ·cases h

def unitL : List (Int × Int) := [(0, 0), (2, 1), (5, -1), (6, 0), (7, 0), (10, 9223372036854775807), (11, -9223372036854775808)]

theorem units_of {W : World} {rest : List (String × DataW Unit)} (h : laidMet Tryd.prog (("plunder/ops.units", Rows.laid_plunder_ops_units) :: rest) W) : UnitsAt W := by
 obtain ⟨ps, ⟨g, t, cs, fuel, p, q, hg, ht, hv, hd, _⟩, _⟩ := h
 obtain rfl := Option.some.inj (gUnits.symm.trans hg)
 obtain rfl := Option.some.inj (tUnits.symm.trans ht)
 have e := cells_of_pairs (L := unitL) Tryd.underlying90 Tryd.underlying89 c89 c90 Tryd.underlying3 Tryd.underlying2 rfl rfl (by kernel_rfl) (by kernel_rfl) hd
 have e2 : cs = unitsV := by
  apply Array.ext'
  rw [e]
  rfl
 subst e2
 exact block_of_var gUnits hv
theorem plainLaid3 : (([("plunder/ops.units", Rows.laid_plunder_ops_units)] : List (String × DataW Unit)).all fun x => x.2.handleName?.isNone) = true := by kernel_rfl
theorem laid3 {W : World} (h : laidMetH Tryd.prog [("plunder/ops.units", Rows.laid_plunder_ops_units)] W) : UnitsAt W := by
 rw [MakeChecks.laidMetH_plain _ _ _ plainLaid3] at h
 exact units_of h
theorem UnitsAt.below {W W' : World} (h : UnitsAt W) (hb : Below W.heap.size W W') : UnitsAt W' := by
 obtain ⟨t, fr, hk⟩ := h
 exact ⟨t, fr, (hb.block 0 (Array.getElem?_eq_some_iff.1 hk).1).trans hk⟩

theorem s90 : (Tryd.prog.info? 90).map (·.size) = some unitsV.size := by kernel_rfl
def unitOf (op : Int) : Int × Bool := if op = 0 then (0, true) else if op = 2 then (1, true) else if op = 5 then (-1, true) else if op = 6 then (0, true) else if op = 7 then (0, true) else if op = 10 then (9223372036854775807, true) else if op = 11 then (-9223372036854775808, true) else (0, false)
def unitOp (k : Nat) : Int := match k with | 0 => 0 | 1 => 2 | 2 => 5 | 3 => 6 | 4 => 7 | 5 => 10 | _ => 11
def unitVal (k : Nat) : Int := match k with | 0 => 0 | 1 => 1 | 2 => -1 | 3 => 0 | 4 => 0 | 5 => 9223372036854775807 | _ => -9223372036854775808
theorem index_units (k : Nat) (hk : k < 7) (w : World) : (Instr.index 90 (.agg unitsV) (.int .i64 (k : Int))).run Tryd.prog w = .ok (.agg #[.int .i64 (unitOp k), .int .i64 (unitVal k)]) w := by
 obtain rfl | rfl | rfl | rfl | rfl | rfl | rfl : k = 0 ∨ k = 1 ∨ k = 2 ∨ k = 3 ∨ k = 4 ∨ k = 5 ∨ k = 6 := by omega
 all_goals kernel_rfl
theorem unit_hit (k : Nat) (hk : k < 7) : unitOf (unitOp k) = (unitVal k, true) := by
 obtain rfl | rfl | rfl | rfl | rfl | rfl | rfl : k = 0 ∨ k = 1 ∨ k = 2 ∨ k = 3 ∨ k = 4 ∨ k = 5 ∨ k = 6 := by omega
 all_goals rfl
theorem unit_miss (op : Int) (h : ∀ j, j < 7 → op ≠ unitOp j) : unitOf op = (0, false) := by
 have h0 := h 0 (by omega); have h1 := h 1 (by omega); have h2 := h 2 (by omega); have h3 := h 3 (by omega); have h4 := h 4 (by omega); have h5 := h 5 (by omega); have h6 := h 6 (by omega)
 simp only [unitOp] at h0 h1 h2 h3 h4 h5 h6
 simp [unitOf, h0, h1, h2, h3, h4, h5, h6]
set_option maxHeartbeats 400000 in
theorem unit_calls (op : Int) (w : World) (hU : UnitsAt w) :
  Calls Tryd.prog 19 #[.int .i64 op] w fun e w' => e = .returned (.tuple #[.int .i64 (unitOf op).1, .bool (unitOf op).2]) ∧ Below w.heap.size w w' := by
 obtain ⟨t, fr, hg⟩ := hU
 go_enter Tryd.func19, Tryd.ntmps19
 go_wp2_with (refine wpList_load_row rfl 90 _ rfl 0 rfl t unitsV fr _ hg Tryd.underlying90 rfl s90 ?_)
 go_loopw [7] (fun i wr => ∃ k : Nat, k ≤ 7 ∧ i = .int .i64 k ∧ Hid (∀ j, j < k → op ≠ unitOp j) ∧ Below w.heap.size w wr) (fun i _ => 7 - (intOf i).toNat)
 case atStart => exact ⟨0, by omega, rfl, Lib.hid (fun j hj => absurd hj (by omega)), Below.refl _ _⟩
 case round =>
  obtain ⟨k, hk, rfl, hn, hB⟩ := hrel
  by_cases hlt : k < 7
  ·have hx := index_units k hlt
   by_cases he : unitOp k = op
   ·have hb : (unitOp k == op) = true := beq_iff_eq.2 he
    have H := Lib.hid he
    clear he
    go_wp2
    go_ret2
    exact ⟨by have e := unit_hit k hlt; rw [H.out] at e; simp [e], hB.alloc hB.size _⟩
   ·have hb : (unitOp k == op) = false := beq_eq_false_iff_ne.2 he
    have H := Lib.hid he
    clear he
    go_wp2
    go_roundw
    case rel => exact ⟨k + 1, by omega, by go_num, Lib.hid (fun j hj => by
     by_cases e : j = k
     ·subst e; exact fun h => H.out h.symm
     ·exact hn.out j (by omega)), hB.alloc hB.size _⟩
    case measure => simp [intOf]; omega
  ·have E := Lib.hid (unit_miss op (fun j hj => hn.out j (by omega)))
   go_wp2
   go_ret2
   exact ⟨by simp [E.out], hB⟩
end Go.Proofs.YtamfkglnejhjdaaDoor.Tab
namespace Go.Proofs.YtamfkglnejhjdaaDoor.FoldLaw
open Go.Proofs.YtamfkglnejhjdaaDoor.Tab
open Go.RowKit Go.Proofs.YtamfkglnejhjdaaDoor.PHyperFold Go.Proofs.YtamfkglnejhjdaaDoorW.PrintWords Go.Proofs.YtamfkglnejhjdaaDoorW.PrintLast Go.Proofs.YtamfkglnejhjdaaDoor.BitMath Go.Proofs.YtamfkglnejhjdaaDoor.Mon
def readyP (op n : Int) : Int × Int := if 0 ≤ op ∧ op < 16 then (if (unitOf op).2 = true then (if n > 65536 then (0, 2) else ((unitOf op).1, 0)) else (0, 11)) else (0, 10)

theorem isOp_yes {op : Int} (h : 0 ≤ op ∧ op < 16) : ops_isOp.f op = some true := by unfold ops_isOp.f; simp [h.1, h.2]
theorem isOp_no {op : Int} (h : ¬ (0 ≤ op ∧ op < 16)) : ops_isOp.f op = some false := by
 unfold ops_isOp.f
 by_cases h0 : op ≥ 0
 ·simp [h0]; omega
 ·simp [h0]

def wkA (op a b : Int) : Int := (ops_work.f op a b).getD 0
theorem work_some (op a b : Int) : ops_work.f op a b = some (wkA op a b) := by
 have h : ∃ v, ops_work.f op a b = some v := by
  unfold ops_work.f
  have hd : ∃ q r, ops_divide.f a b = some (q, r) := by unfold ops_divide.f; split; exact ⟨_, _, rfl⟩; split <;> exact ⟨_, _, rfl⟩
  obtain ⟨q, r, hd⟩ := hd
  have hu : 0 ≤ IntKind.u64.wrap (Go.bits .and .i64 b 63) := by
   simp only [IntKind.wrap, IntKind.bits, IntKind.signed]
   simp
   omega
  have ht : ∀ c, ∃ v, ops_truth.f c = some v := fun c => by cases c <;> exact ⟨_, rfl⟩
  obtain ⟨t1, h1⟩ := ht (decide (a < b))
  obtain ⟨t2, h2⟩ := ht (decide (a ≤ b))
  obtain ⟨t3, h3⟩ := ht (a == b)
  obtain ⟨t4, h4⟩ := ht (a != b)
  simp only [hd, if_pos hu, h1, h2, h3, h4, Option.bind_some]
  have ok : ∀ (c : Prop) [Decidable c] (x y : Option Int), (∃ v, x = some v) → (∃ v, y = some v) → ∃ v, (if c then x else y) = some v := fun c _ x y h k => by
   by_cases e : c
   ·rw [if_pos e]; exact h
   ·rw [if_neg e]; exact k
  repeat' (first | (with_reducible refine ok _ _ _ ?_ ?_) | exact ⟨_, rfl⟩)
 obtain ⟨v, h⟩ := h
 unfold wkA
 rw [h]; rfl

def foldP (op : Int) (l : List Int) : Int × Int := if (readyP op l.length).2 = 0 then (l.foldl (wkA op) (readyP op l.length).1, 0) else (0, (readyP op l.length).2)

theorem hasUnit_of {op : Int} (h : (unitOf op).2 = true) : HasUnit op := by
 unfold HasUnit
 unfold unitOf at h
 by_cases h0 : op = 0
 ·omega
 by_cases h1 : op = 6
 ·omega
 by_cases h2 : op = 7
 ·omega
 by_cases h3 : op = 2
 ·omega
 by_cases h4 : op = 5
 ·omega
 by_cases h5 : op = 10
 ·omega
 by_cases h6 : op = 11
 ·omega
 simp [h0, h1, h2, h3, h4, h5, h6] at h
theorem unitOf_un {op : Int} (h : HasUnit op) : unitOf op = (un op, true) := by
 unfold HasUnit at h
 unfold unitOf un
 rcases h with rfl | rfl | rfl | rfl | rfl | rfl | rfl <;> rfl
theorem work_wk {op : Int} (h : HasUnit op) (a b : Int) : ops_work.f op a b = some (wk op a b) := by
 unfold HasUnit at h
 unfold wk
 rcases h with rfl | rfl | rfl | rfl | rfl | rfl | rfl <;> rfl

end Go.Proofs.YtamfkglnejhjdaaDoor.FoldLaw
