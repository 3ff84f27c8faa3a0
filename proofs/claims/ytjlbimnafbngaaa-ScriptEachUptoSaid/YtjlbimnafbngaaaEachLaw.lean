/- The law ScriptEach, walked: it answers true. -/
import Derived.Test.YtjlbimnafbngaaaEachRound
namespace Go.Proofs.Ytjlbimnafbngaaa.Each
open Go.RowKit Go.Shelf Go.Proofs.YtjlbimnafbngaaaW.PrintWords Go.Proofs.YtjlbimnafbngaaaW.PrintLast Go.Proofs.Ytjlbimnafbngaaa.PScriptEach Go.Proofs.Ytjlbimnafbngaaa.BitMath
attribute [local go_sem] Oper.semAt_some
set_option linter.unusedVariables false
set_option linter.unusedSimpArgs false
/-- A way through that does not leave: whatever is said of leaving. -/
theorem only_normal {P : Program} {c : Code} {Q : Exit → Act → World → Prop} {a : Act} {w : World} (h : c.wp P (fun e a w => match e with | .normal => Q .normal a w | _ => False) a w) : c.wp P Q a w := by
  refine wp_mono h ?_
  intro e a w q
  cases e <;> first | exact q | exact q.elim
/-- The marks on a function's way out: each is shut. -/
theorem leaves_marks {P : Program} {F : Fence} {n : Nat} {fn : Func} {tmps : Array Value} {R : Ending → World → Prop} (n0 : Nat) : ∀ (Ds : List Nat) (w : World), n0 ≤ w.heap.size → (∀ D, D ∈ Ds → w.heap[D]? = some (.deferred (some [])) ∧ n0 ≤ D) → Ds.Nodup →
    (∀ w', Below n0 w w' → (∀ k, k ∉ Ds → w'.heap[k]? = w.heap[k]?) → LeavesIn F n P fn tmps R [] .returning w') → LeavesInM F n P fn tmps R (Ds.map markOf) .returning w
  | [], w, _, _, _, h => h w (Below.refl _ _) (fun _ _ => rfl)
  | D :: Ds, w, hn, hD, hnd, h => by
    obtain ⟨hni, hnd⟩ := List.nodup_cons.1 hnd
    obtain ⟨hK, hDn⟩ := hD D (by simp)
    have hg := grownBy_putObj' w D (.deferred none)
    have hlt := blk_lt hK
    have hb : Below n0 w (w.putObj D (.deferred none)) := (Below.refl n0 w).grown hg hn (fun k e => by cases e; exact hDn)
    have hs : ∀ k, k ≠ D → (w.putObj D (.deferred none)).heap[k]? = w.heap[k]? := fun k hk => by
      by_cases hkl : k < w.heap.size
      · exact hg.block k hkl (fun e => hk (by cases e; rfl))
      · rw [World.putObj, Array.getElem?_setIfInBounds_ne (by omega)]
    refine ⟨by simp, .inl ⟨_, _, rfl, run_takeDeferred hK, leaves_marks n0 Ds _ (by have := hb.size; omega) (fun D' hD' => ⟨?_, (hD D' (List.mem_cons_of_mem _ hD')).2⟩) hnd (fun w' hb' hs' => h w' (hb.trans hb') (fun k hk => ?_))⟩⟩
    · rw [hs D' (fun e => hni (e ▸ hD'))]
      exact (hD D' (List.mem_cons_of_mem _ hD')).1
    · rw [List.mem_cons, not_or] at hk
      rw [hs' k hk.2, hs k hk.1]
theorem copied2 (A0 A1 : Option Addr) (c0 c1 : Nat) (p d : List Int) (w : World) (hp : Kd.C (Kd.int .i64) w A0 p.length p) (hc0 : p.length ≤ c0) (hd : Kd.C (Kd.int .i64) w A1 d.length d) (hc1 : d.length ≤ c1) (hlp : p.length ≤ 1048576) (hld : d.length ≤ 1048576) :
    Calls Try.prog 29 #[.agg #[.slice A0 p.length c0, .slice A1 d.length c1]] w fun e w' => ∃ v0 v1 : Value, e = .returned (.agg #[v0, v1]) ∧ w'.ownsRow w.heap.size 3 1 v0 p.length (nums .i64 p) ∧ w'.ownsRow w.heap.size 3 1 v1 d.length (nums .i64 d) ∧ Below w.heap.size w w' := by
  refine (plunderlaw10_copied.calls A0 c0 p A1 c1 d p d w hp hc0 hd hc1 (by unfold plunderlaw10_copied.f; simp; omega)).mono ?_
  rintro e w' ⟨v0, v1, rfl, r0, r1, hb⟩
  exact ⟨v0, v1, rfl, Kd.own_of_R r0, Kd.own_of_R r1, hb⟩
def L9 : Bool × List (List Nat × List Nat) := (true, [([], []), ([0], [0]), ([], []), ([], []), ([3], [3]), ([], []), ([4, 5], [4, 5]), ([6], [6]), ([7], [7]), ([], []), ([9], [9]), ([8, 10], [8, 10]), ([1, 2, 0, 1, 2, 3, 4, 5, 6, 7, 8, 9, 10, 11], [1, 2]), ([12, 11, 0, 1, 2, 3, 4, 5, 6, 7, 8, 9, 10, 11], [11, 12])])
def L9B : List Nat := [0, 1, 0, 0, 8, 0, 56, 120, 248, 0, 512, 2040, 4095, 8191]
theorem L9_tab : rtab .any (opsOf Try.f7 9) = L9 := by kernel_rfl
theorem L9_bits : waitsOk L9.2 L9B = true := by kernel_rfl
set_option maxHeartbeats 8000000 in
set_option maxRecDepth 100000 in
theorem walk_in (A0 A1 : Option Addr) (c0 c1 : Nat) (p d : List Int) (a st : Int) (w : World) (hp0 : Kd.C (Kd.int .i64) w A0 p.length p) (hc0 : p.length ≤ c0) (hd0 : Kd.C (Kd.int .i64) w A1 d.length d) (hc1 : d.length ≤ c1) (hp : p.length ≤ 1048576) (hd : d.length ≤ 1048576) :
    CallsIn Fence.wide 4 Try.prog 7 #[.agg #[.slice A0 p.length c0, .slice A1 d.length c1], .int .i64 a, .int .i64 st] w fun e w' => e = .returned (.bool true) ∧ Below w.heap.size w w' := by
  have hu24 := Try.underlying24
  have HP := Aside0.mk hp0
  have HD := Aside0.mk hd0
  have HLp := Aside0.mk hp
  have HLd := Aside0.mk hd
  clear hp0 hd0 hp hd
  refine callsIn_of_wp_marks Try.func7 rfl trivial ?_ rfl
  simp only [Try.ntmps7, List.size_toArray, List.length_cons, List.length_nil, Nat.reduceAdd, Nat.reduceSub, Array.replicate_succ, Array.replicate_zero, List.push_toArray, List.append_toArray, List.nil_append, List.cons_append]
  refine wpIn_wide.2 ?_
  go_wp2_with fail
  obtain ⟨b, hbe⟩ : ∃ b, w.heap.size = b := ⟨_, rfl⟩
  obtain ⟨W1, hW1⟩ : ∃ W1, (((w.alloc (.cells #[.slice A0 p.length c0, .slice A1 d.length c1] 24)).alloc (.cells #[.int .i64 a] 3)).alloc (.cells #[.int .i64 st] 3)).alloc (.cells #[.bool false] 4) = W1 := ⟨_, rfl⟩
  have HB1 := Aside0.mk (show Below w.heap.size w W1 from hW1 ▸ below_alloc (below_alloc (below_alloc (below_alloc (Below.refl w.heap.size w) _) _) _) _)
  have HZ1 := Aside0.mk (show W1.heap.size = b + 4 by rw [← hW1, ← hbe]; simp)
  have H3 := Aside0.mk (show W1.heap[b]? = some (.cells #[.slice A0 p.length c0, .slice A1 d.length c1] 24 (0, 0)) by
    rw [← hW1, ← hbe, heap_alloc_old _ _ _ (by simp; omega), heap_alloc_old _ _ _ (by simp; omega), heap_alloc_old _ _ _ (by simp)]; exact heap_alloc_new _ _)
  have H4 := Aside0.mk (show W1.heap[b + 1]? = some (.cells #[.int .i64 a] 3 (0, 0)) by
    have := heap_alloc_new (w.alloc (.cells #[.slice A0 p.length c0, .slice A1 d.length c1] 24)) (.cells #[.int .i64 a] 3)
    rw [World.size_alloc, hbe] at this
    rw [← hW1, heap_alloc_old _ _ _ (by simp; omega), heap_alloc_old _ _ _ (by simp; omega)]; exact this)
  have H5 := Aside0.mk (show W1.heap[b + 1 + 1]? = some (.cells #[.int .i64 st] 3 (0, 0)) by
    have := heap_alloc_new ((w.alloc (.cells #[.slice A0 p.length c0, .slice A1 d.length c1] 24)).alloc (.cells #[.int .i64 a] 3)) (.cells #[.int .i64 st] 3)
    rw [World.size_alloc, World.size_alloc, hbe] at this
    rw [← hW1, heap_alloc_old _ _ _ (by simp; omega)]; exact this)
  have H6 := Aside0.mk (show W1.heap[b + 1 + 1 + 1]? = some (.cells #[.bool false] 4 (0, 0)) by
    have := heap_alloc_new (((w.alloc (.cells #[.slice A0 p.length c0, .slice A1 d.length c1] 24)).alloc (.cells #[.int .i64 a] 3)).alloc (.cells #[.int .i64 st] 3)) (.cells #[.bool false] 4)
    rw [World.size_alloc, World.size_alloc, World.size_alloc, hbe] at this
    rw [← hW1]; exact this)
  rw [hW1, hbe]
  clear hW1
  refine (copied2 A0 A1 c0 c1 p d W1 (Kd.C_below HP.out HB1.out) hc0 (Kd.C_below HD.out HB1.out) hc1 HLp.out HLd.out).mono ?_
  rintro e W2 ⟨v0, v1, rfl, o0, o1, hb2⟩
  have HB2 := Aside0.mk (below_step HB1.out hb2)
  have HO := Aside0.mk o0
  have HGc := Aside0.mk (show ∀ k, v0.ownBlock = some k → b + 4 ≤ k ∧ k < W2.heap.size from fun k hk => ⟨by have := own_base o0 k hk; have := HZ1.out; omega, own_lt o0 k hk⟩)
  have HZ2 := Aside0.mk (show b + 4 ≤ W2.heap.size by have := hb2.size; have := HZ1.out; omega)
  replace H3 := Aside0.mk ((hb2.block b (by have := HZ1.out; omega)).trans H3.out)
  replace H4 := Aside0.mk ((hb2.block (b + 1) (by have := HZ1.out; omega)).trans H4.out)
  replace H5 := Aside0.mk ((hb2.block (b + 1 + 1) (by have := HZ1.out; omega)).trans H5.out)
  replace H6 := Aside0.mk ((hb2.block (b + 1 + 1 + 1) (by have := HZ1.out; omega)).trans H6.out)
  obtain ⟨Ac, cc, rfl⟩ := own_slice o0
  obtain ⟨Ad, cd, rfl⟩ := own_slice o1
  clear o0 o1 hb2
  go_upto_region 2 with (fail)
  obtain ⟨W3, hW3⟩ : ∃ W3, W2.alloc (.cells #[.slice Ac p.length cc, .slice Ad d.length cd] 24) = W3 := ⟨_, rfl⟩
  have hb3 : Below W2.heap.size W2 W3 := hW3 ▸ below_alloc (Below.refl W2.heap.size W2) _
  have H7 := Aside0.mk (show W3.heap[W2.heap.size]? = some (.cells #[.slice Ac p.length cc, .slice Ad d.length cd] 24 (0, 0)) by rw [← hW3]; exact heap_alloc_new _ _)
  have HZ3 := Aside0.mk (show W3.heap.size = W2.heap.size + 1 by rw [← hW3]; simp)
  replace H3 := Aside0.mk ((hb3.block b (by have := HZ2.out; omega)).trans H3.out)
  replace H4 := Aside0.mk ((hb3.block (b + 1) (by have := HZ2.out; omega)).trans H4.out)
  replace H5 := Aside0.mk ((hb3.block (b + 1 + 1) (by have := HZ2.out; omega)).trans H5.out)
  replace H6 := Aside0.mk ((hb3.block (b + 1 + 1 + 1) (by have := HZ2.out; omega)).trans H6.out)
  have HO3 := Aside0.mk (pw_own_below HO.out hb3)
  have HB3 := Aside0.mk (below_step HB2.out hb3)
  rw [hW3]
  clear hW3 hb3 HO HB2
  have x3a : W3.cell? ⟨b, 0, none⟩ = some (.slice A0 p.length c0) := (blk_cell H3.out 0).trans rfl
  have x3b : W3.cell? ⟨b, 1, none⟩ = some (.slice A1 d.length c1) := (blk_cell H3.out 1).trans rfl
  go_upto_region 3 with (fail)
  clear x3a x3b
  have HLt := Aside0.mk (show b + 1 < W3.heap.size by have := HZ3.out; have := HZ2.out; omega)
  go_cut [25] from 20 to 26 (fun v25 wc => v25 = .bool (!decide (1 ≤ a ∧ a ≤ 64)) ∧ wc = W3.alloc (.cells #[.int .i64 p.length] 3))
  case first =>
    have x4 : (W3.alloc (.cells #[.int .i64 p.length] 3)).cell? ⟨b + 1, 0, none⟩ = some (.int .i64 a) := (blk_cell ((heap_alloc_old W3 _ _ HLt.out).trans H4.out) 0).trans rfl
    obtain ⟨W4, hW4⟩ : ∃ W4, W3.alloc (.cells #[.int .i64 p.length] 3) = W4 := ⟨_, rfl⟩
    rw [hW4] at x4 ⊢
    by_cases h1 : a < 1
    · have h2 : decide (1 ≤ a ∧ a ≤ 64) = false := decide_eq_false (by omega)
      go_wp2
      go_meet
      case rel => exact ⟨by rw [h2]; rfl, hW4.symm⟩
    · have h1' : 1 ≤ a := by omega
      by_cases h3 : 64 < a
      · have h2 : decide (1 ≤ a ∧ a ≤ 64) = false := decide_eq_false (by omega)
        go_wp2
        go_meet
        case rel => exact ⟨by rw [h2]; rfl, hW4.symm⟩
      · have h3' : a ≤ 64 := by omega
        have h2 : decide (1 ≤ a ∧ a ≤ 64) = true := decide_eq_true ⟨h1', h3'⟩
        go_wp2
        go_meet
        case rel => exact ⟨by rw [h2]; rfl, hW4.symm⟩
  case rest =>
    obtain ⟨rfl, rfl⟩ := hcut
    go_upto_if 25 with (fail)
    go_cut [25] from 20 to 26 (fun v25 wc => wc = W3.alloc (.cells #[.int .i64 (many p a)] 3))
    case first =>
      have h8 := heap_alloc_new W3 (.cells #[.int .i64 p.length] 3)
      have hm1 : 1 ≤ a ∧ a ≤ 64 → (many p a : Int) = p.length := fun h => by unfold many; rw [if_pos h]
      have hm2 : ¬ (1 ≤ a ∧ a ≤ 64) → (many p a : Int) = 0 := fun h => by unfold many; rw [if_neg h]; rfl
      by_cases ha : 1 ≤ a ∧ a ≤ 64
      · rw [decide_eq_true ha]
        go_wp2
        go_meet
        case rel => rw [hm1 ha]
      · rw [decide_eq_false ha]
        go_wp2
        go_meet
        case rel => rw [hm2 ha]
    case rest =>
      subst hcut
      obtain ⟨W5, hW5⟩ : ∃ W5, W3.alloc (.cells #[.int .i64 (many p a)] 3) = W5 := ⟨_, rfl⟩
      have hb5 : Below W3.heap.size W3 W5 := hW5 ▸ below_alloc (Below.refl W3.heap.size W3) _
      have H8 := Aside0.mk (show W5.heap[W3.heap.size]? = some (.cells #[.int .i64 (many p a)] 3 (0, 0)) by rw [← hW5]; exact heap_alloc_new _ _)
      have HZ5 := Aside0.mk (show W5.heap.size = W3.heap.size + 1 by rw [← hW5]; simp)
      replace H3 := Aside0.mk ((hb5.block b (by have := HZ2.out; have := HZ3.out; omega)).trans H3.out)
      replace H4 := Aside0.mk ((hb5.block (b + 1) (by have := HZ2.out; have := HZ3.out; omega)).trans H4.out)
      replace H5 := Aside0.mk ((hb5.block (b + 1 + 1) (by have := HZ2.out; have := HZ3.out; omega)).trans H5.out)
      replace H6 := Aside0.mk ((hb5.block (b + 1 + 1 + 1) (by have := HZ2.out; have := HZ3.out; omega)).trans H6.out)
      replace H7 := Aside0.mk ((hb5.block W2.heap.size (by have := HZ3.out; omega)).trans H7.out)
      have HO5 := Aside0.mk (pw_own_below HO3.out hb5)
      have HB5 := Aside0.mk (below_step HB3.out hb5)
      rw [hW5]
      clear hW5 hb5 HO3 HB3
      have x7a : W5.cell? ⟨W2.heap.size, 0, none⟩ = some (.slice Ac p.length cc) := (blk_cell H7.out 0).trans rfl
      have x7b : W5.cell? ⟨W2.heap.size, 1, none⟩ = some (.slice Ad d.length cd) := (blk_cell H7.out 1).trans rfl
      have x4 : W5.cell? ⟨b + 1, 0, none⟩ = some (.int .i64 a) := (blk_cell H4.out 0).trans rfl
      go_wp2_with fail
      have hCp : Kd.C (Kd.int .i64) W5 Ac p.length p := by
        obtain ⟨A', c', e', h2, h1⟩ := Kd.R_reads (Kd.R_of_own (h1 := fun _ => rfl) (ok := fun _ => True) HO5.out (fun _ _ => trivial))
        injection e' with e1 e2 e3
        rw [e1]
        exact h1
      refine (each_calls Ac Ad cc d.length cd p a W5 hCp HLp.out).mono ?_
      clear hCp x7a x7b x4
      rintro e W6 ⟨Bw, Bs, sv, rfl, g1, g2, g3, g4, xw, xs, hI, hob, hb6⟩
      replace H3 := Aside0.mk ((hb6.block b (by have := HZ2.out; have := HZ3.out; have := HZ5.out; omega)).trans H3.out)
      replace H4 := Aside0.mk ((hb6.block (b + 1) (by have := HZ2.out; have := HZ3.out; have := HZ5.out; omega)).trans H4.out)
      replace H5 := Aside0.mk ((hb6.block (b + 1 + 1) (by have := HZ2.out; have := HZ3.out; have := HZ5.out; omega)).trans H5.out)
      replace H6 := Aside0.mk ((hb6.block (b + 1 + 1 + 1) (by have := HZ2.out; have := HZ3.out; have := HZ5.out; omega)).trans H6.out)
      replace H7 := Aside0.mk ((hb6.block W2.heap.size (by have := HZ3.out; have := HZ5.out; omega)).trans H7.out)
      replace H8 := Aside0.mk ((hb6.block W3.heap.size (by have := HZ5.out; omega)).trans H8.out)
      have HO6 := Aside0.mk (pw_own_below HO5.out hb6)
      have HB6 := Aside0.mk (below_step HB5.out hb6)
      have HXw := Aside0.mk xw
      have HXs := Aside0.mk xs
      have HIn := Aside0.mk hI
      have HOb := Aside0.mk hob
      have HG := Aside0.mk (And.intro g1 (And.intro g2 (And.intro g3 g4)))
      clear hb6 HO5 HB5 xw xs hI hob g1 g2 g3 g4
      go_wp2
      go_loopw [10] (fun v10 w' => ∃ (i : Nat) (ys : List Int), i ≤ p.length ∧ ys.length = p.length ∧ v10 = .int .i64 i ∧ Aside0 (w'.ownsRow W1.heap.size 3 1 (.slice Ac p.length cc) p.length (nums .i64 ys)) ∧ Aside0 (w'.heap.size = W6.heap.size ∧ ∀ k, (Value.slice Ac p.length cc).ownBlock ≠ some k → w'.heap[k]? = W6.heap[k]?) ∧ Aside0 (Below w.heap.size w w')) (fun v _ => p.length - (intOf v).toNat)
      case atStart => exact ⟨0, p, Nat.zero_le _, rfl, rfl, HO6, ⟨rfl, fun _ _ => rfl⟩, HB6⟩
      case round =>
        obtain ⟨i, ys, hi, hys, rfl, HOr, HK, HBr⟩ := hrel
        have H7r := Aside0.mk ((HK.out.2 W2.heap.size (fun e => by have := HGc.out _ e; omega)).trans H7.out)
        have x7a : wr.cell? ⟨W2.heap.size, 0, none⟩ = some (.slice Ac p.length cc) := (blk_cell H7r.out 0).trans rfl
        have hlp : (p.length : Int) ≤ 1048576 := by have := HLp.out; omega
        by_cases hlt : i < p.length
        · obtain ⟨g, hg⟩ : ∃ g, Ac = some ⟨g, 0, none⟩ := by
            rcases HOr.out.2 with ⟨_, h0⟩ | ⟨g, cap, cur, he, _⟩
            · omega
            · injection he with e1; exact ⟨g, e1⟩
          subst hg
          have p1 : (0 : Int) ≤ (i : Int) := by omega
          have q1 : (i : Int) < (p.length : Int) := by omega
          obtain ⟨hcx, hfx⟩ := own_at HOr.out (i : Int) p1 q1
          rw [Int.toNat_natCast] at hcx hfx
          have HYs := Aside0.mk hys
          have HRd := Aside0.mk (rfl : rd ys (i : Int) = rd ys (i : Int))
          generalize rd ys (i : Int) = y at hcx
          clear hys HRd
          go_wp2
          refine only_normal ?_
          refine start_ (n := 14) (S := (fun w' => w'.cell? ⟨W2.heap.size, 0, none⟩ = some (.slice (some ⟨g, 0, none⟩) p.length cc) ∧ w'.cell? ⟨g, i, none⟩ = some (.int .i64 y))) (ds := [13]) #[false, false, false, false, false, false, false, false, false, false, false, false, false, false] (by kernel_rfl) rfl rfl ⟨x7a, hcx⟩ (fun hHeld => ?_); refine with_tabW L9_tab L9_bits (fun HT_ HW_ => ?_)
          refine pure_ (i := 0) (N := some 36) (v := ?_) (a' := ?_) #[true, false, false, false, false, false, false, false, false, false, false, false, false, false] rfl rfl (any_of HT_.out (by kernel_rfl)) (fun _ _ _ h => h) (Or.inl ⟨by rfl, ?_⟩) ?_ ?_
          rotate_left
          · intro w'
            go_simp
            with_reducible rfl
          rotate_left
          · simp only [Act.put, List.setIfInBounds_toArray, List.set_cons_zero, List.set_cons_succ, i64_w, i32_w]
            rfl
          refine pure_ (i := 2) (N := some 38) (v := ?_) (a' := ?_) #[true, false, true, false, false, false, false, false, false, false, false, false, false, false] rfl rfl (any_of HT_.out (by kernel_rfl)) (fun _ _ _ h => h) (Or.inl ⟨by rfl, ?_⟩) ?_ ?_
          rotate_left
          · intro w'
            go_simp
            with_reducible rfl
          rotate_left
          · simp only [Act.put, List.setIfInBounds_toArray, List.set_cons_zero, List.set_cons_succ, i64_w, i32_w]
            rfl
          refine pure_ (i := 3) (N := some 39) (v := ?_) (a' := ?_) #[true, false, true, true, false, false, false, false, false, false, false, false, false, false] rfl rfl (any_of HT_.out (by kernel_rfl)) (fun _ _ _ h => h) (Or.inl ⟨by rfl, ?_⟩) ?_ ?_
          rotate_left
          · intro w'
            go_simp
            with_reducible rfl
          rotate_left
          · simp only [Act.put, List.setIfInBounds_toArray, List.set_cons_zero, List.set_cons_succ, i64_w, i32_w]
            rfl
          refine pure_ (i := 5) (N := some 41) (v := ?_) (a' := ?_) #[true, false, true, true, false, true, false, false, false, false, false, false, false, false] rfl rfl (any_of HT_.out (by kernel_rfl)) (fun _ _ _ h => h) (Or.inl ⟨by rfl, ?_⟩) ?_ ?_
          rotate_left
          · intro w'
            go_simp
            with_reducible rfl
          rotate_left
          · simp only [Act.put, List.setIfInBounds_toArray, List.set_cons_zero, List.set_cons_succ, i64_w, i32_w]
            rfl
          refine take_ (i := 1) (N := some 37) (v := ?_) (a' := ?_) #[true, true, true, true, false, true, false, false, false, false, false, false, false, false] rfl rfl (take_ofW HT_.out HW_.out (by kernel_rfl)) (fun _ _ _ h => h) (Or.inl ⟨by rfl, ?_⟩) hHeld ?_ ?_
          rotate_left
          · rintro w' ⟨s0, s1⟩
            go_simp
            with_reducible rfl
          rotate_left
          · simp only [Act.put, List.setIfInBounds_toArray, List.set_cons_zero, List.set_cons_succ, i64_w, i32_w]
            rfl
          refine take_ (i := 4) (N := some 40) (v := ?_) (a' := ?_) #[true, true, true, true, true, true, false, false, false, false, false, false, false, false] rfl rfl (take_ofW HT_.out HW_.out (by kernel_rfl)) (fun _ _ _ h => h) (Or.inl ⟨by rfl, ?_⟩) hHeld ?_ ?_
          rotate_left
          · rintro w' ⟨s0, s1⟩
            go_simp
            with_reducible rfl
          rotate_left
          · simp only [Act.put, List.setIfInBounds_toArray, List.set_cons_zero, List.set_cons_succ, i64_w, i32_w]
            rfl
          refine pure_ (i := 6) (N := some 42) (v := ?_) (a' := ?_) #[true, true, true, true, true, true, true, false, false, false, false, false, false, false] rfl rfl (any_of HT_.out (by kernel_rfl)) (fun _ _ _ h => h) (Or.inl ⟨by rfl, ?_⟩) ?_ ?_
          rotate_left
          · intro w'
            go_simp
            with_reducible rfl
          rotate_left
          · simp only [Act.put, List.setIfInBounds_toArray, List.set_cons_zero, List.set_cons_succ, i64_w, i32_w]
            rfl
          refine take_ (i := 7) (N := some 43) (v := ?_) (a' := ?_) #[true, true, true, true, true, true, true, true, false, false, false, false, false, false] rfl rfl (take_ofW HT_.out HW_.out (by kernel_rfl)) (fun _ _ _ h => h) (Or.inl ⟨by rfl, ?_⟩) hHeld ?_ ?_
          rotate_left
          · rintro w' ⟨s0, s1⟩
            go_simp
            with_reducible rfl
          rotate_left
          · simp only [Act.put, List.setIfInBounds_toArray, List.set_cons_zero, List.set_cons_succ, i64_w, i32_w]
            rfl
          refine pure_ (i := 8) (N := some 44) (v := ?_) (a' := ?_) #[true, true, true, true, true, true, true, true, true, false, false, false, false, false] rfl rfl (any_of HT_.out (by kernel_rfl)) (fun _ _ _ h => h) (Or.inl ⟨by rfl, ?_⟩) ?_ ?_
          rotate_left
          · intro w'
            go_simp
            with_reducible rfl
          rotate_left
          · simp only [Act.put, List.setIfInBounds_toArray, List.set_cons_zero, List.set_cons_succ, i64_w, i32_w]
            rfl
          refine pure_ (i := 9) (N := some 45) (v := ?_) (a' := ?_) #[true, true, true, true, true, true, true, true, true, true, false, false, false, false] rfl rfl (any_of HT_.out (by kernel_rfl)) (fun _ _ _ h => h) (Or.inl ⟨by rfl, ?_⟩) ?_ ?_
          rotate_left
          · intro w'
            go_simp
            with_reducible rfl
          rotate_left
          · simp only [Act.put, List.setIfInBounds_toArray, List.set_cons_zero, List.set_cons_succ, i64_w, i32_w]
            rfl
          refine pure_ (i := 10) (N := some 46) (v := ?_) (a' := ?_) #[true, true, true, true, true, true, true, true, true, true, true, false, false, false] rfl rfl (any_of HT_.out (by kernel_rfl)) (fun _ _ _ h => h) (Or.inl ⟨by rfl, ?_⟩) ?_ ?_
          rotate_left
          · intro w'
            go_simp
            with_reducible rfl
          rotate_left
          · simp only [Act.put, List.setIfInBounds_toArray, List.set_cons_zero, List.set_cons_succ, i64_w, i32_w]
            rfl
          refine pure_ (i := 11) (N := some 47) (v := ?_) (a' := ?_) #[true, true, true, true, true, true, true, true, true, true, true, true, false, false] rfl rfl (any_of HT_.out (by kernel_rfl)) (fun _ _ _ h => h) (Or.inl ⟨by rfl, ?_⟩) ?_ ?_
          rotate_left
          · intro w'
            go_simp
            with_reducible rfl
          rotate_left
          · simp only [Act.put, List.setIfInBounds_toArray, List.set_cons_zero, List.set_cons_succ, i64_w, i32_w]
            rfl
          refine pure_ (i := 12) (N := some 48) (v := ?_) (a' := ?_) #[true, true, true, true, true, true, true, true, true, true, true, true, true, false] rfl rfl (any_of HT_.out (by kernel_rfl)) (fun _ _ _ h => h) (Or.inl ⟨by rfl, ?_⟩) ?_ ?_
          rotate_left
          · intro w'
            go_simp
            with_reducible rfl
          rotate_left
          · simp only [Act.put, List.setIfInBounds_toArray, List.set_cons_zero, List.set_cons_succ, i64_w, i32_w]
            rfl
          refine last_ (i := 13) (N := none) #[true, true, true, true, true, true, true, true, true, true, true, true, true, true] rfl rfl (one_of HT_.out (by kernel_rfl)) (by decide) (fun K hK => ?_)
          refine skip_ (w1 := ?_) (by rfl) rfl ?_ ?_
          rotate_left
          · go_simp
            rfl
          refine hK.out _ _ ?_
          clear hK K
          refine done_ (done_of HT_.out (by kernel_rfl)) ?_
          clear HT_ HW_ hHeld
          dsimp only [Exit.inBlock, Exit.then]
          go_wp2
          have hst := (own_store HOr.out (i : Int) (wrap64 (wrap64 (y + 1) + (i : Int) % 3))).1
          rw [Int.toNat_natCast] at hst
          have hgb : b + 4 ≤ g := (HGc.out g rfl).1
          have hsb : w.heap.size = b := hbe
          refine ⟨⟨i + 1, ys.set i (wrap64 (wrap64 (y + 1) + (i : Int) % 3)), by omega, by rw [List.length_set]; exact HYs.out, by go_num, ⟨hst⟩, ⟨?_, fun k hk => ?_⟩, ⟨?_⟩⟩, by simp [intOf]; omega⟩
          · exact (World.size_setCell wr _ _).trans HK.out.1
          · exact (Below.heap_setCell wr ⟨g, i, none⟩ _ k (fun e => hk (by simp [Value.ownBlock, e]))).trans (HK.out.2 k hk)
          · exact below_drew (HBr.out.setCell (p := ⟨g, i, none⟩) (by show w.heap.size ≤ g; omega) _)
        · have hq : ∀ (fn : Fn) (x z : Array Value) (w : World), Sem.run Try.prog (binOp .eql 49 (.func fn x z) .nilFunc) w = .ok (.bool false) w := fun fn x z w => by kernel_rfl
          go_wp2
          have hkn : Known A0 c0 (.slice A1 d.length c1) p a st b W3.heap.size Bw Bs sv wr := by
            have hk : ∀ k, k < b + 4 ∨ W2.heap.size ≤ k → wr.heap[k]? = W6.heap[k]? := fun k hk => HK.out.2 k (fun e => by have := HGc.out k e; omega)
            have h2 := HZ2.out
            have h3 := HZ3.out
            have h5 := HZ5.out
            have h6 := HG.out
            have hsz := HK.out.1
            refine ⟨(hk b (by omega)).trans H3.out, (hk _ (by omega)).trans H4.out, (hk _ (by omega)).trans H5.out, (hk _ (by omega)).trans H6.out, (hk _ (by omega)).trans H8.out, ?_, ?_, by omega, by omega, ?_, Kd.C_below HP.out HBr.out, HLp.out⟩
            · exact (World.cell?_of_block (hk Bw (by omega))).trans HXw.out
            · exact (World.cell?_of_block (hk Bs (by omega))).trans HXs.out
            · rcases HIn.out with ⟨h1, h1'⟩ | ⟨g, off, cap, h1, h1', h1''⟩
              · exact .inl ⟨h1, h1'⟩
              · refine .inr ⟨g, off, cap, h1, by omega, fun j hj => ?_⟩
                have hg := HOb.out g (by rw [h1]; rfl)
                exact (World.cell?_of_block (hk g (by omega))).trans (h1'' j hj)
          refine wp_loop_ghost (Inv A0 A1 p.length c0 d.length c1 a st b W2.heap.size W3.heap.size Bw Bs (.int .i64 i) wr) 3 ?_ ?_
          · exact inv_of 0 wr.heap.size [] rfl (by rfl) ((Below.refl _ _).alloc (Nat.le_refl _) _) (heap_alloc_new _ _) (Nat.le_refl _) (fun _ h => by cases h) (by simp)
          · intro n' a' w' hI
            refine round_wp A0 A1 c0 d.length c1 p a st b W2.heap.size W3.heap.size Bw Bs sv (.int .i64 i) wr hkn _ ?_ n' a' w' hI
            intro a' w' hI0
            obtain ⟨r, g, Ds, f, _, rfl, hbw, _, _, hDs, hnd⟩ := hI0
            have HDs := Aside0.mk (And.intro hDs hnd)
            have HBw := Aside0.mk hbw
            have h6 := blk_below hkn.h6 hbw
            have HH6 := Aside0.mk h6
            have x6 : w'.cell? ⟨b + 1 + 1 + 1, 0, none⟩ = some (.bool false) := (blk_cell h6 0).trans rfl
            have f6 := blk_frozen h6 0
            clear hDs hnd hbw h6 hkn
            unfold frame
            dsimp only [Exit.inBlock, Exit.then]
            simp only [if_true]
            obtain ⟨W9, hW9⟩ : ∃ W9, w'.setCell ⟨b + 1 + 1 + 1, 0, none⟩ (.bool true) = W9 := ⟨_, rfl⟩
            have hsb : w.heap.size = b := hbe
            have HB9 := Aside0.mk (show Below w.heap.size w W9 from hW9 ▸ (HBr.out.trans (HBw.out.mono HBr.out.size)).setCell (p := ⟨b + 1 + 1 + 1, 0, none⟩) (by show w.heap.size ≤ b + 1 + 1 + 1; omega) _)
            have H9 := Aside0.mk (show W9.heap[b + 1 + 1 + 1]? = some (.cells #[.bool true] 4 (0, 0)) from hW9 ▸ blk_put HH6.out 0 _ rfl)
            have HN9 := Aside0.mk (show ∀ k, k ≠ b + 1 + 1 + 1 → W9.heap[k]? = w'.heap[k]? from fun k hk => hW9 ▸ Below.heap_setCell w' ⟨b + 1 + 1 + 1, 0, none⟩ _ k hk)
            clear hsb
            go_wp2
            refine leaves_marks w.heap.size Ds W9 HB9.out.size (fun D hD => ?_) HDs.out.2 (fun w2 hb2 hs2 => ?_)
            · have h1 := HDs.out.1 D hD
              have hne : D ≠ b + 1 + 1 + 1 := fun e => by
                have h2 := HH6.out
                rw [← e, h1.1] at h2
                cases h2
              exact ⟨(HN9.out D hne).trans h1.1, by have := HBr.out.size; omega⟩
            · have h3 : w2.heap[b + 1 + 1 + 1]? = some (.cells #[.bool true] 4 (0, 0)) := by
                rw [hs2 _ (fun hin => ?_)]
                · exact H9.out
                · have h1 := (HDs.out.1 _ hin).1
                  rw [HH6.out] at h1
                  cases h1
              have hx : w2.cell? ⟨b + 1 + 1 + 1, 0, none⟩ = some (.bool true) := (blk_cell h3 0).trans rfl
              exact ⟨.bool true, (by simp [results, Try.results7, go_sem, hx]), rfl, HB9.out.trans hb2⟩
end Go.Proofs.Ytjlbimnafbngaaa.Each
