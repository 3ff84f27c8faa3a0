/- The document's own Encode: a contract, for lists that are not too long. -/
import Derived.Test.YtjlbimnafbngaaaDoorTold
namespace Go.Proofs.YtjlbimnafbngaaaDoor.Enc
open Go.RowKit Go.Proofs.YtjlbimnafbngaaaDoorW.PrintWords Go.Proofs.YtjlbimnafbngaaaDoor.BitMath Go.Proofs.YtjlbimnafbngaaaDoor.PScriptEncode Go.Proofs.YtjlbimnafbngaaaDoorW.PrintLast Go.Proofs.YtjlbimnafbngaaaDoorW.PrintMore
set_option linter.unusedVariables false
theorem Own.conv {B : Nat} {v : Value} {cur : List UInt8} {w : World} (h : Own B v cur w) : (convert 40 9 v).run Tryd.prog w = .ok (.string ⟨cur.toArray⟩) w := by
  have hn : Lib.byteCells cur = nums .u8 (cur.map fun x => (x.toNat : Int)) := by simp [Lib.byteCells, nums, List.map_map, Function.comp_def]
  have hs : strOfNums (cur.map fun x => (x.toNat : Int)) = ⟨cur.toArray⟩ := by
    unfold strOfNums
    simp [List.map_map, Function.comp_def]
  unfold Own at h
  rw [hn] at h
  rw [← hs]
  exact own_string Tryd.underlying40 Tryd.underlying5 Tryd.underlying9 h
set_option maxHeartbeats 4000000 in
set_option maxRecDepth 100000 in
theorem rencode_calls (A0 : Option Addr) (c0 : Nat) (l0 : List Int) (A1 : Option Addr) (c1 : Nat) (l1 : List Int) (w : World) (hr0 : Kd.C (Kd.int .i64) w A0 l0.length l0) (hr1 : Kd.C (Kd.int .i64) w A1 l1.length l1) (hw0 : ∀ x, x ∈ l0 → In64 x) (hw1 : ∀ x, x ∈ l1 → In64 x) (hm0 : l0.length ≤ 1048576) (hm1 : l1.length ≤ 1048576) :
    Calls Tryd.prog 9 #[.agg #[.slice A0 l0.length c0, .slice A1 l1.length c1]] w fun e w' => e = .returned (.tuple #[.string (encF l0 l1).1, .int .i64 (encF l0 l1).2]) ∧ Below w.heap.size w w' := by
  have hu24 := Tryd.underlying24
  have HR0 := Aside0.mk hr0
  have HR1 := Aside0.mk hr1
  have HW0 := Aside0.mk hw0
  have HW1 := Aside0.mk hw1
  have HB := Aside0.mk (Below.refl w.heap.size w)
  obtain ⟨i0, hi0, hzz⟩ := Option.map_eq_some_iff.1 info5
  simp only [Prod.mk.injEq] at hzz
  obtain ⟨hzr0, hzr1, hzr2⟩ := hzz
  clear hr0 hr1 hw0 hw1
  go_enter Tryd.func9, Tryd.ntmps9
  go_upto_region 1 with (first | ((with_reducible refine gate_dst (N := 1) rfl ?_); (try (refine gate_guard (by rfl) ?_; dsimp only)); refine box_event ?hg (N := 1) ?hd (cs := #[.slice A0 l0.length c0, .slice A1 l1.length c1]) (t := 24) ?hr ?_; (case hd => rfl); (case hg => rfl); (case hr => first | (go_simp; done) | (go_simp; rfl)); intro gb hg w3 hbox hb; have n0_ := Aside0.mk (below_step HB.out hb); have n1_ := Aside0.mk hbox; have n2_ := Aside0.mk (by rw [hg]; exact HB.out.size : w.heap.size ≤ gb); clear HB; have HB := n0_; have BK := n1_; have GE := n2_; clear n0_ n1_ n2_; clear hb hbox hg))
  (try simp only [Act.put, List.setIfInBounds_toArray, List.set_cons_zero, List.set_cons_succ])
  have hz0 : w3.cell? ⟨gb, 0, none⟩ = some (.slice A0 l0.length c0) := (blk_cell BK.out 0).trans rfl
  have hz1 : w3.cell? ⟨gb, 1, none⟩ = some (.slice A1 l1.length c1) := (blk_cell BK.out 1).trans rfl
  have hf0 := blk_frozen BK.out 0
  have hf1 := blk_frozen BK.out 1
  have hI0 : (l0.length : Int) ≤ 1048576 := by omega
  have hI1 : (l1.length : Int) ≤ 1048576 := by omega
  have HG := Aside0.mk (Array.getElem?_eq_some_iff.1 BK.out).1
  have HS := Aside0.mk HB.out.size
  have HL0 := Aside0.mk (toldL_len 65578 (Nat.le_refl _) l0.length picksB l0 hm0 HW0.out (by decide))
  have HL1 := Aside0.mk (toldL_len 65600 (by decide) l1.length (toldL l0.length picksB l0 ++ drawsB) l1 hm1 HW1.out (by have := HL0.out; rw [List.length_append]; simp [drawsB]; omega))
  obtain ⟨B, hBe⟩ : ∃ B, w3.heap.size = B := ⟨_, rfl⟩
  rw [hBe] at HG HS
  have HO := Aside0.mk (Own.nil B w3)
  have HP := Aside0.mk (Below.refl B w3)
  go_wp2_with (at_builtin; refine Lib.wpList_append_own_string _ rfl _ _ 40 9 rfl B 5 i0 Tryd.underlying40 Tryd.underlying9 hi0 hzr0 hzr1 hzr2 _ _ _ rfl HO.out _ rfl ?c3 ?c4 ?c5 ?_)
  case c3 => decide
  case c4 => decide
  case c5 => omega
  intro v4 w4 ho4 hg4 _
  have HP4 := Aside0.mk (HP.out.grown hg4 (by omega) (own_base HO.out))
  have HO4 := Aside0.mk (show Own B v4 picksB w4 from Own.str (s := picksB) ho4)
  clear ho4 hg4 HO HP hz0 hz1 hf0 hf1
  have hz4 : w4.cell? ⟨gb, 0, none⟩ = some (.slice A0 l0.length c0) := (blk_cell ((HP4.out.block gb HG.out).trans BK.out) 0).trans rfl
  go_wp2_with fail
  refine (told_calls B v4 picksB A0 c0 l0 w4 HO4.out (by have := HP4.out.size; omega) (by decide) (fun W' hb => Kd.C_below HR0.out (HB.out.trans ((HP4.out.trans hb).mono HS.out))) HW0.out hm0).mono ?_
  rintro e w5 ⟨v5, rfl, ho5, hb5⟩
  have HO5 := Aside0.mk ho5
  have HP5 := Aside0.mk (HP4.out.trans hb5)
  clear ho5 hb5 HO4 HP4 hz4
  go_wp2_with (at_builtin; refine Lib.wpList_append_own_string _ rfl _ _ 40 9 rfl B 5 i0 Tryd.underlying40 Tryd.underlying9 hi0 hzr0 hzr1 hzr2 _ _ _ rfl HO5.out _ rfl ?d3 ?d4 ?d5 ?_)
  case d3 => have := HL0.out; rw [Lib.byteCells_length]; simp [ByteArray.size, maxLen]; omega
  case d4 => have := HL0.out; rw [Lib.byteCells_length]; simp [ByteArray.size]; omega
  case d5 => have := HP5.out.size; omega
  intro v6 w6 ho6 hg6 _
  have HP6 := Aside0.mk (HP5.out.grown hg6 (by have := HP5.out.size; omega) (own_base HO5.out))
  have HO6 := Aside0.mk (show Own B v6 (toldL l0.length picksB l0 ++ drawsB) w6 from Own.str (s := drawsB) ho6)
  clear ho6 hg6 HO5 HP5
  have hz6 : w6.cell? ⟨gb, 1, none⟩ = some (.slice A1 l1.length c1) := (blk_cell ((HP6.out.block gb HG.out).trans BK.out) 1).trans rfl
  go_wp2_with fail
  refine (told_calls B v6 _ A1 c1 l1 w6 HO6.out (by have := HP6.out.size; omega) (by have := HL0.out; rw [List.length_append]; simp [drawsB]; omega) (fun W' hb => Kd.C_below HR1.out (HB.out.trans ((HP6.out.trans hb).mono HS.out))) HW1.out hm1).mono ?_
  rintro e w7 ⟨v7, rfl, ho7, hb7⟩
  have HO7 := Aside0.mk (show Own B v7 (textL l0 l1) w7 from ho7)
  have HP7 := Aside0.mk (HP6.out.trans hb7)
  clear ho7 hb7 HO6 HP6 hz6
  obtain ⟨A7, c7, rfl⟩ := HO7.out.slice
  have hcv := HO7.out.conv
  by_cases hbig : (textL l0 l1).length > 65536
  · have hE : encF l0 l1 = (⟨#[]⟩, 2) := by unfold encF; rw [if_pos hbig]
    have HE := Aside0.mk hE
    clear hE
    have hbI : (65536 : Int) < ((textL l0 l1).length : Int) := by omega
    generalize (textL l0 l1).length = n at *
    go_wp2
    go_ret2
    exact ⟨by rw [HE.out]; rfl, HB.out.trans (HP7.out.mono HS.out)⟩
  · have hE : encF l0 l1 = (⟨(textL l0 l1).toArray⟩, 0) := by unfold encF; rw [if_neg hbig]
    have HE := Aside0.mk hE
    clear hE
    have hbI : ((textL l0 l1).length : Int) ≤ 65536 := by omega
    generalize (⟨(textL l0 l1).toArray⟩ : ByteArray) = st at *
    generalize (textL l0 l1).length = n at *
    go_wp2
    go_ret2
    exact ⟨by rw [HE.out]; rfl, HB.out.trans (HP7.out.mono HS.out)⟩
end Go.Proofs.YtjlbimnafbngaaaDoor.Enc
