/- script.Encode: a contract, for lists that are not too long. -/
import Derived.Test.YtjlbimnafbngaaaDoorWriteList
namespace Go.Proofs.YtjlbimnafbngaaaDoor.Enc
open Go.RowKit Go.Proofs.YtjlbimnafbngaaaDoorW.PrintWords Go.Proofs.YtjlbimnafbngaaaDoor.BitMath Go.Proofs.YtjlbimnafbngaaaDoor.Fmt
set_option linter.unusedVariables false
theorem toldL_len (M : Nat) (hM : 65578 ≤ M) (n : Nat) : ∀ (b : List UInt8) (l : List Int), l.length ≤ 1048576 → (∀ x, x ∈ l → In64 x) → b.length ≤ M → (toldL n b l).length ≤ M := by
  induction n with
  | zero => intro b l _ _ h; exact h
  | succ n ih =>
    intro b l hl hw h
    cases l with
    | nil => rw [toldL_nil]; exact h
    | cons x t =>
      simp only [toldL]
      split
      · have hs := same_le x t
        rw [List.length_cons] at hl
        have h1 := (FmtPure.itoa_len x (hw x (List.mem_cons_self ..))).2
        have h2 := (FmtPure.itoa_len ((same x t + 1 : Nat) : Int) (by unfold In64; omega)).2
        refine ih _ _ (by rw [List.length_drop]; omega) (fun y hy => hw y (List.mem_cons_of_mem _ (List.mem_of_mem_drop hy))) ?_
        unfold piece
        split
        · simp; omega
        · simp only [List.length_append, List.length_cons]; omega
      · exact h
def picksB : List UInt8 := [112, 105, 99, 107, 115]
def drawsB : List UInt8 := [32, 100, 114, 97, 119, 115]
/-- A script's text. -/
def textL (l0 l1 : List Int) : List UInt8 := toldL l1.length (toldL l0.length picksB l0 ++ drawsB) l1
def encF (l0 l1 : List Int) : ByteArray × Int := if (textL l0 l1).length > 65536 then (⟨#[]⟩, 2) else (⟨(textL l0 l1).toArray⟩, 0)
set_option maxHeartbeats 4000000 in
set_option maxRecDepth 100000 in
theorem encode_calls (A0 : Option Addr) (c0 : Nat) (l0 : List Int) (A1 : Option Addr) (c1 : Nat) (l1 : List Int) (w : World) (hr0 : Kd.C (Kd.int .i64) w A0 l0.length l0) (hr1 : Kd.C (Kd.int .i64) w A1 l1.length l1) (hT : PowAt w) (hw0 : ∀ x, x ∈ l0 → In64 x) (hw1 : ∀ x, x ∈ l1 → In64 x) (hm0 : l0.length ≤ 1048576) (hm1 : l1.length ≤ 1048576) :
    Calls Tryd.prog 7 #[.agg #[.slice A0 l0.length c0, .slice A1 l1.length c1]] w fun e w' => e = .returned (.tuple #[.string (encF l0 l1).1, .int .i64 (encF l0 l1).2]) ∧ Below w.heap.size w w' := by
  have hu24 := Tryd.underlying24
  have hu42 := Tryd.underlying42
  have HR0 := Aside0.mk hr0
  have HR1 := Aside0.mk hr1
  have HT := Aside0.mk hT
  have HW0 := Aside0.mk hw0
  have HW1 := Aside0.mk hw1
  have HB := Aside0.mk (Below.refl w.heap.size w)
  clear hr0 hr1 hT hw0 hw1
  go_enter Tryd.func7, Tryd.ntmps7
  go_upto_region 1 with (first | ((with_reducible refine gate_dst (N := 1) rfl ?_); (try (refine gate_guard (by rfl) ?_; dsimp only)); refine box_event ?hg (N := 1) ?hd (cs := #[.slice A0 l0.length c0, .slice A1 l1.length c1]) (t := 24) ?hr ?_; (case hd => rfl); (case hg => rfl); (case hr => first | (go_simp; done) | (go_simp; rfl)); intro gb hg w3 hbox hb; have n0_ := Aside0.mk (below_step HB.out hb); have n1_ := Aside0.mk hbox; have n2_ := Aside0.mk (by rw [hg]; exact HB.out.size : w.heap.size ≤ gb); clear HB; have HB := n0_; have BK := n1_; have GE := n2_; clear n0_ n1_ n2_; clear hb hbox hg))
  (try simp only [Act.put, List.setIfInBounds_toArray, List.set_cons_zero, List.set_cons_succ])
  have hz0 : w3.cell? ⟨gb, 0, none⟩ = some (.slice A0 l0.length c0) := (blk_cell BK.out 0).trans rfl
  have hz1 : w3.cell? ⟨gb, 1, none⟩ = some (.slice A1 l1.length c1) := (blk_cell BK.out 1).trans rfl
  have hf0 := blk_frozen BK.out 0
  have hf1 := blk_frozen BK.out 1
  have hI0 : (l0.length : Int) ≤ 1048576 := by omega
  have hI1 : (l1.length : Int) ≤ 1048576 := by omega
  go_wp2_with fail
  have HG := Aside0.mk (Array.getElem?_eq_some_iff.1 BK.out).1
  have HS := Aside0.mk HB.out.size
  have HI := Aside0.mk (Lib.fresh_isBuilder 42 5 w3)
  have HP := Aside0.mk (below_alloc (Below.refl w3.heap.size w3) (.cells #[.pointer none, .slice none 0 0] 42))
  have HL0 := Aside0.mk (toldL_len 65578 (Nat.le_refl _) l0.length picksB l0 hm0 HW0.out (by decide))
  have HL1 := Aside0.mk (toldL_len 65600 (by decide) l1.length (toldL l0.length picksB l0 ++ drawsB) l1 hm1 HW1.out (by have := HL0.out; rw [List.length_append]; simp [drawsB]; omega))
  have hBe : ∃ B, w3.heap.size = B := ⟨_, rfl⟩
  obtain ⟨B, hBe⟩ := hBe
  rw [hBe] at HG HS HI HP ⊢
  generalize w3.alloc (.cells #[.pointer none, .slice none 0 0] 42) = w4 at *
  have HS4 := Aside0.mk (show B ≤ w4.heap.size by have := HP.out.size; omega)
  clear hz0 hz1 hf0 hf1 hI0 hI1
  refine (write_calls B B [] _ _ HI.out (by decide) HS4.out).mono ?_
  rintro e w5 ⟨rfl, hI5, hb5⟩
  have HI5 := Aside0.mk (show Lib.IsBuilder 42 5 B B (Lib.byteCells picksB) w5 from hI5)
  have HP5 := Aside0.mk (HP.out.trans hb5)
  clear hI5 hb5 HI HP
  have hz5 : w5.cell? ⟨gb, 0, none⟩ = some (.slice A0 l0.length c0) := (blk_cell ((HP5.out.block gb HG.out).trans BK.out) 0).trans rfl
  go_wp2_with fail
  refine (writeList_calls B B picksB A0 c0 l0 w5 HI5.out (by have := HP5.out.size; omega) (by decide) (fun W' hb => Kd.C_below HR0.out (HB.out.trans ((HP5.out.trans hb).mono HS.out))) (fun W' hb => HT.out.below (HB.out.trans ((HP5.out.trans hb).mono HS.out))) HW0.out hm0).mono ?_
  rintro e w6 ⟨rfl, hI6, hb6⟩
  have HI6 := Aside0.mk hI6
  have HP6 := Aside0.mk (HP5.out.trans hb6)
  clear hI6 hb6 HI5 HP5 hz5
  go_wp2_with fail
  refine (write_calls B B _ _ _ HI6.out (by have := HL0.out; simp [ByteArray.size]; omega) (by have := HP6.out.size; omega)).mono ?_
  rintro e w7 ⟨rfl, hI7, hb7⟩
  have HI7 := Aside0.mk (show Lib.IsBuilder 42 5 B B (Lib.byteCells (toldL l0.length picksB l0 ++ drawsB)) w7 from hI7)
  have HP7 := Aside0.mk (HP6.out.trans hb7)
  clear hI7 hb7 HI6 HP6
  have hz7 : w7.cell? ⟨gb, 1, none⟩ = some (.slice A1 l1.length c1) := (blk_cell ((HP7.out.block gb HG.out).trans BK.out) 1).trans rfl
  go_wp2_with fail
  refine (writeList_calls B B _ A1 c1 l1 w7 HI7.out (by have := HP7.out.size; omega) (by have := HL0.out; rw [List.length_append]; simp [drawsB]; omega) (fun W' hb => Kd.C_below HR1.out (HB.out.trans ((HP7.out.trans hb).mono HS.out))) (fun W' hb => HT.out.below (HB.out.trans ((HP7.out.trans hb).mono HS.out))) HW1.out hm1).mono ?_
  rintro e w8 ⟨rfl, hI8, hb8⟩
  have HI8 := Aside0.mk (show Lib.IsBuilder 42 5 B B (Lib.byteCells (textL l0 l1)) w8 from hI8)
  have HP8 := Aside0.mk (HP7.out.trans hb8)
  clear hI8 hb8 HI7 HP7 hz7
  go_wp2_with fail
  refine (Tryd.Builder_Len B B _ _ HI8.out).mono ?_
  rintro e w9 ⟨rfl, rfl⟩
  rw [Lib.byteCells_length]
  by_cases hbig : (textL l0 l1).length > 65536
  · have hE : encF l0 l1 = (⟨#[]⟩, 2) := by unfold encF; rw [if_pos hbig]
    have HE := Aside0.mk hE
    clear hE
    have hbI : (65536 : Int) < ((textL l0 l1).length : Int) := by omega
    generalize ((textL l0 l1).length : Int) = n at *
    go_wp2
    go_ret2
    exact ⟨by rw [HE.out]; rfl, HB.out.trans (HP8.out.mono HS.out)⟩
  · have hE : encF l0 l1 = (⟨(textL l0 l1).toArray⟩, 0) := by unfold encF; rw [if_neg hbig]
    have HE := Aside0.mk hE
    clear hE
    have hbI : ((textL l0 l1).length : Int) ≤ 65536 := by omega
    have HSt := Aside0.mk (Tryd.Builder_String_any B B (textL l0 l1) w9 HI8.out (by have := HP8.out.size; omega))
    generalize ((textL l0 l1).length : Int) = n at *
    generalize (⟨(textL l0 l1).toArray⟩ : ByteArray) = st at *
    go_wp2_with fail
    refine HSt.out.mono ?_
    rintro e w10 ⟨rfl, hb10⟩
    have HP10 := Aside0.mk (HP8.out.trans hb10)
    clear hb10
    go_wp2
    go_ret2
    exact ⟨by rw [HE.out]; rfl, HB.out.trans (HP10.out.mono HS.out)⟩
end Go.Proofs.YtjlbimnafbngaaaDoor.Enc
