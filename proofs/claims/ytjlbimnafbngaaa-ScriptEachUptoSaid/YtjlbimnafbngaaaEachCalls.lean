/- script.Each: a contract: a closure over its own copy of the picks. -/
import Derived.Test.YtjlbimnafbngaaaEachIter
import Derived.Test.YtjlbimnafbngaaaEachClone
namespace Go.Proofs.Ytjlbimnafbngaaa.Each
open Go.RowKit Go.Proofs.YtjlbimnafbngaaaW.PrintWords Go.Proofs.YtjlbimnafbngaaaW.PrintLast
set_option linter.unusedVariables false
theorem Ints.of_own {w : World} {base : Nat} {v : Value} {zs : List Int} (h : w.ownsRow base 3 1 v zs.length (nums .i64 zs)) : Ints w.heap.size w v zs := by
  have h0 := h
  rcases h.2 with ⟨hv, hz⟩ | ⟨g, cap, cur, hv, _, hh, _⟩
  · exact .inl ⟨hv, List.eq_nil_of_length_eq_zero hz⟩
  · refine .inr ⟨g, 0, cap, hv, (Array.getElem?_eq_some_iff.1 hh).1, fun j hj => ?_⟩
    subst hv
    have := (own_at h0 (j : Int) (by omega) (by omega)).1
    rw [Int.toNat_natCast] at this
    simpa [rd, List.getD_eq_getElem?_getD] using this
theorem Ints.more {n m : Nat} {w : World} {v : Value} {zs : List Int} (h : Ints n w v zs) (hnm : n ≤ m) : Ints m w v zs := by
  rcases h with h | ⟨b, off, cap, h1, h2, h3⟩
  · exact .inl h
  · exact .inr ⟨b, off, cap, h1, by omega, h3⟩
set_option maxRecDepth 100000 in
set_option maxHeartbeats 2000000 in
theorem each_calls (A0 A1 : Option Addr) (c0 n1 c1 : Nat) (p : List Int) (a : Int) (w : World) (hr : Kd.C (Kd.int .i64) w A0 p.length p) (hl : p.length ≤ 1048576) :
    Calls Try.prog 30 #[.agg #[.slice A0 p.length c0, .slice A1 n1 c1], .int .i64 a] w fun e w' => ∃ (Bw Bs : Nat) (sv : Value), e = .returned (.func (.func 51) #[] #[.pointer (some ⟨Bw, 0, none⟩), .pointer (some ⟨Bs, 0, none⟩)]) ∧
      w.heap.size ≤ Bw ∧ Bw < w'.heap.size ∧ w.heap.size ≤ Bs ∧ Bs < w'.heap.size ∧ w'.cell? ⟨Bw, 0, none⟩ = some (.int .i64 a) ∧ w'.cell? ⟨Bs, 0, none⟩ = some sv ∧ Ints w'.heap.size w' sv p ∧ (∀ k, sv.ownBlock = some k → w.heap.size ≤ k) ∧ Below w.heap.size w w' := by
  have hu24 := Try.underlying24
  have HR := Aside0.mk hr
  have HL := Aside0.mk hl
  clear hr hl
  go_enter Try.func30, Try.ntmps30
  go_wp2_with fail
  have HB2 := Aside0.mk (below_alloc (below_alloc (Below.refl w.heap.size w) (.cells #[.slice A0 p.length c0, .slice A1 n1 c1] 24)) (.cells #[.int .i64 a] 3))
  have HW := Aside0.mk (show ((w.alloc (.cells #[.slice A0 p.length c0, .slice A1 n1 c1] 24)).alloc (.cells #[.int .i64 a] 3)).cell? ⟨w.heap.size + 1, 0, none⟩ = some (.int .i64 a) by
    have h1 := heap_alloc_new (w.alloc (.cells #[.slice A0 p.length c0, .slice A1 n1 c1] 24)) (.cells #[.int .i64 a] 3)
    rw [show (w.alloc (.cells #[.slice A0 p.length c0, .slice A1 n1 c1] 24)).heap.size = w.heap.size + 1 by simp] at h1
    exact (blk_cell h1 0).trans rfl)
  have HN := Aside0.mk (show ((w.alloc (.cells #[.slice A0 p.length c0, .slice A1 n1 c1] 24)).alloc (.cells #[.int .i64 a] 3)).heap.size = w.heap.size + 2 by simp)
  generalize (w.alloc (.cells #[.slice A0 p.length c0, .slice A1 n1 c1] 24)).alloc (.cells #[.int .i64 a] 3) = w2 at *
  refine (EachClone.clone_calls A0 c0 p w2 (Kd.C_below HR.out HB2.out) (by have := HL.out; omega)).mono ?_
  rintro e w3 ⟨v, rfl, hR, hb⟩
  have HB3 := Aside0.mk (below_step HB2.out hb)
  have HW3 := Aside0.mk ((hb.cell (p := ⟨w.heap.size + 1, 0, none⟩) (by have := HN.out; show w.heap.size + 1 < _; omega)).trans HW.out)
  have HI := Aside0.mk (Ints.of_own (Kd.own_of_R hR))
  have HS := Aside0.mk hb.size
  have HOB := Aside0.mk (own_base (Kd.own_of_R hR))
  obtain ⟨A3, c3, rfl⟩ := Kd.R_slice hR
  clear hR hb HB2 HW
  go_wp2_with fail
  go_ret
  have h4 := heap_alloc_new w3 (.cells #[.slice A3 p.length c3] 22)
  have hb4 : Below w3.heap.size w3 (w3.alloc (.cells #[.slice A3 p.length c3] 22)) := below_alloc (Below.refl w3.heap.size w3) _
  have hsz : w3.heap.size < (w3.alloc (.cells #[.slice A3 p.length c3] 22)).heap.size := by simp
  have hn := HN.out
  have hs := HS.out
  refine ⟨w.heap.size + 1, w3.heap.size, .slice A3 p.length c3, rfl, by omega, by omega, by omega, hsz, ?_, ?_, ?_, (fun k hk => by have := HOB.out k hk; omega), ?_⟩
  · exact (hb4.cell (p := ⟨w.heap.size + 1, 0, none⟩) (by show w.heap.size + 1 < _; omega)).trans HW3.out
  · exact (blk_cell h4 0).trans rfl
  · exact (Ints.below hb4 HI.out).more (Nat.le_of_lt hsz)
  · exact below_step HB3.out hb4
end Go.Proofs.Ytjlbimnafbngaaa.Each
