/- The document's run: a deed. -/
import Derived.Test.YtamfkglnejhjdaaDoorRefMerge
import Derived.Test.YtamfkglnejhjdaaDoorQuietCall
import Derived.Test.YtamfkglnejhjdaaDoorPlayC
namespace Go.Proofs.YtamfkglnejhjdaaDoor.Ref
open Go.RowKit Go.Proofs.YtamfkglnejhjdaaDoorW.PrintWords Go.Proofs.YtamfkglnejhjdaaDoorW.PrintLast Go.Proofs.YtamfkglnejhjdaaDoorW.PrintMore Go.Proofs.YtamfkglnejhjdaaDoor.PHyperFold
set_option linter.unusedVariables false
set_option linter.unusedSimpArgs false

open Go.Proofs.YtamfkglnejhjdaaDoor.Play Go.Proofs.YtamfkglnejhjdaaDoor.QuietCall
open Go.Proofs.YtamfkglnejhjdaaDoor.PlayState (ints ints_length ints_getD ints_erase Bd)
theorem infoI64s : (Tryd.prog.info? 36).map (fun i => (i.zero, i.size, i.bytes)) = some (some (.slice none 0 0), 1, 24) := by kernel_rfl
theorem infoTask : (Tryd.prog.info? 96).map (fun i => (i.zero, i.size, i.bytes)) = some (some (.agg #[.int .i64 0, .slice none 0 0]), 2, 32) := by kernel_rfl
def PutOk (w0 : World) (gr : Nat) (op : Int) (F : List Int → Int) (X : Int → Prop) : Prop := ∀ (w : World) (g : Gr) (a : List Int) (x : Int), RS w0 w gr g → g.op = op → (∀ y, y ∈ a → X y) → X x →
  Calls Tryd.prog 66 #[.pointer (some ⟨gr, 0, none⟩), .int .i64 (F a), .int .i64 x] w fun e w' => e = .returned (.int .i64 (F (a ++ [x]))) ∧ Below w.heap.size w w'
theorem PutOk.at_ {w0 : World} {gr : Nat} {op : Int} {F : List Int → Int} {X : Int → Prop} (h : PutOk w0 gr op F X) (w : World) (g : Gr) (a : List Int) (x : Int) (h1 : RS w0 w gr g) (h2 : g.op = op) (h3 : ∀ y, y ∈ a → X y) (h4 : X x) :
    Calls Tryd.prog 66 #[.pointer (some ⟨gr, 0, none⟩), .int .i64 (F a), .int .i64 x] w fun e w' => e = .returned (.int .i64 (F (a ++ [x]))) ∧ Below w.heap.size w w' := h w g a x h1 h2 h3 h4
theorem R_lit1 {α : Type} {enc : α → Value} {h1 : ∀ x, (enc x).oneCell' = true} (e : Nat) (W : World) (x : α) : (Kd.scalar enc h1).R e (W.alloc (.cells #[enc x] e)) W.heap.size (fun _ => True) (.slice (some ⟨W.heap.size, 0, none⟩) 1 1) [x] := by
  refine Kd.R_of_own (xs := [x]) ?_ (fun _ _ => trivial)
  have h2 := World.ownsRow_lit (base := W.heap.size) (e := e) (size := 1) W #[enc x] 1 (Nat.le_refl _) (by simp [maxLen]) (by simp)
  simpa [encs] using h2
/-- A row's elements, with what is known of their rows' blocks. -/
theorem R_readsM {α : Type} {d : Kd α} {e base : Nat} {ok : Nat → Prop} {W : World} {g n cap : Nat} {xs : List α} (z : α) (h : d.R e W base ok (.slice (some ⟨g, 0, none⟩) n cap) xs) : ReadsRow (d.M W base (fun k => ok k ∧ k ≠ g)) d.sz W (some ⟨g, 0, none⟩) n xs := by
  obtain ⟨hn, hc, hC⟩ := Kd.R_reads' h
  refine ⟨hn.symm, by rw [hn]; exact hC.2.1, fun _ => ⟨⟨g, 0, none⟩, rfl, fun j p hj => ?_⟩⟩
  have hlt := (List.getElem?_eq_some_iff.1 hj).1
  obtain ⟨c, h1, h2, h3, _⟩ := Kd.R_elem h z (j : Int) (by omega) (by omega)
  rw [Int.toNat_natCast, List.getD_eq_getElem?_getD, hj] at h2
  refine ⟨c, h1, h2, fun i u hu => ?_⟩
  rw [add0]
  have := h3 i u hu
  rwa [Int.toNat_natCast] at this
theorem reads_take {α : Type} {R : α → List Value → Prop} {sz : Nat} {W : World} {A : Option Addr} {n : Nat} {xs : List α} (h : ReadsRow R sz W A n xs) (m : Nat) (hm : m ≤ n) : ReadsRow R sz W A m (xs.take m) := by
  refine ⟨by rw [List.length_take]; have := h.1; omega, by have := h.2.1; omega, fun hp => ?_⟩
  obtain ⟨ad, e, hc⟩ := h.2.2 (by omega)
  refine ⟨ad, e, fun j p hj => hc j p ?_⟩
  rw [List.getElem?_take] at hj
  split at hj
  · exact hj
  · cases hj
/-- The run's object at gr stands for the play s. -/
def RT (w0 w : World) (gr : Nat) (F : List Int → Int) (op un : Int) (ps : List Int) (s : St (List Int)) : Prop := ∃ g, RS w0 w gr g ∧ RepR F op un ps s g ∧ g.sn = s.count ∧ g.ts.map (fun t : S96 => t.f0) = (-1) :: ints s.spawns.reverse
theorem C_lit1 {w : World} {b e : Nat} {x : Int} (h : w.heap[b]? = some (.cells #[.int .i64 x] e (0, 0))) : (Kd.int .i64).C w (some ⟨b, 0, none⟩) 1 [x] := by
  refine Kd.C_of_reads (d := (0 : Int)) (h1 := fun _ => rfl) ⟨rfl, by omega, fun _ => ⟨⟨b, 0, none⟩, rfl, fun j hj => ?_⟩⟩
  obtain rfl : j = 0 := by omega
  rw [add0]
  exact (blk_cell h 0).trans rfl
theorem ReadsRow.weaken {α : Type} {R R' : α → List Value → Prop} {sz : Nat} {W : World} {A : Option Addr} {n : Nat} {xs : List α} (h : ReadsRow R sz W A n xs) (hR : ∀ x cs, R x cs → R' x cs) : ReadsRow R' sz W A n xs := by
  refine ⟨h.1, h.2.1, fun hp => ?_⟩
  obtain ⟨ad, e, hc⟩ := h.2.2 hp
  exact ⟨ad, e, fun j p hj => by obtain ⟨c, h1, h2, h3⟩ := hc j p hj; exact ⟨c, h1, hR _ _ h2, h3⟩⟩
set_option maxHeartbeats 4000000 in
set_option maxRecDepth 100000 in
theorem last_at (w : World) (gr : Nat) (A : Option Addr) (k c : Nat) (hx : w.cell? ⟨gr, 3, none⟩ = some (.slice A (k + 1) c)) (hk : k ≤ 100000) :
    Calls Tryd.prog 51 #[.pointer (some ⟨gr, 0, none⟩)] w fun e w' => e = .returned (.int .i64 (k : Int)) ∧ w' = w := by
  have hl2 : (k : Int) ≤ 100000 := by omega
  have hw : wrap64 ((k : Int) + 1 - 1) = (k : Int) := by rw [BitMath.wrap_id (by unfold BitMath.In64; omega)]; omega
  clear hk
  go_enter Tryd.func51, Tryd.ntmps51
  go_wp2
  go_ret
  refine ⟨?_, rfl⟩
  first | rfl | (congr 2; show (k : Int) + 1 - 1 = k; omega)
section
variable {w0 w w1 : World} {gr : Nat} {F : List Int → Int} {op un : Int} {ps : List Int} {s : St (List Int)} {g : Gr} {L : List Int} {n : Nat}
theorem hand_at (h : RS w0 w gr g) (hr : RepR F op un ps s g) (hB : Bd n s L) (hn : n ≤ 100000) :
    Calls Tryd.prog 65 #[.pointer (some ⟨gr, 0, none⟩)] w fun e w' => e = .returned (.int .i64 (s.hand : Int)) ∧ Drawn0 w w' := by
  obtain ⟨tl, sp, h1, h2, h3⟩ := hr.last
  obtain ⟨hne, hl, _⟩ := hB.cur
  have hpos : 0 < s.cur.length := List.length_pos_iff.2 hne
  have e : (ints s.cur).getD ((ints s.cur).length - 1) 0 = (s.hand : Int) := by
    rw [ints_length, ints_getD]
    congr 1
    unfold St.hand
    rw [List.getLastD_eq_getLast?, List.getLast?_eq_getElem?, List.getD_eq_getElem?_getD]
  have := hand_calls h h1 (by show 0 < (ints s.cur).length; rw [ints_length]; exact hpos) (by show (ints s.cur).length ≤ 4194304; rw [ints_length]; omega) (by have := hr.tasks_len; have := hB.up; omega)
  rw [show (⟨sp, ints s.cur⟩ : S96).f1 = ints s.cur from rfl, e] at this
  exact this
theorem RS.looks_only (h : RS w0 w gr g) (hg : w.grownBy w1 (slv g.lo).ownBlock) : Only 36 w w1 := Only.grown hg (typed_of h.rw.l)
theorem RS.looked (h : RS w0 w gr g) {t1 : Sl} {m : List Int} (ho : kL.R 36 w1 w0.heap.size (fun _ => True) (slv t1) (g.ls ++ [m])) (hb : Below w0.heap.size w0 w1) (hg : w.grownBy w1 (slv g.lo).ownBlock) :
    RS w0 (w1.setCell ⟨gr, 10, none⟩ (slv t1)) gr { g with lo := t1, ls := g.ls ++ [m] } :=
  h.put (T := 36) (by decide) (h.looks_only hg) hb 10 _ _ rfl (h.rw.looks (h.looks_only hg) ho) ⟨rfl, rfl⟩
theorem RS.tasks_only (h : RS w0 w gr g) (hg : w.grownBy w1 (slv g.tk).ownBlock) : Only 96 w w1 := Only.grown hg (typed_of h.rw.t)
theorem RS.task_made (h : RS w0 w gr g) {t1 : Sl} {m : S96} (ho : k96.R 96 w1 w0.heap.size (fun _ => True) (slv t1) (g.ts ++ [m])) (hb : Below w0.heap.size w0 w1) (hg : w.grownBy w1 (slv g.tk).ownBlock) :
    RS w0 (w1.setCell ⟨gr, 3, none⟩ (slv t1)) gr { g with tk := t1, ts := g.ts ++ [m] } :=
  h.put (T := 96) (by decide) (h.tasks_only hg) hb 3 _ _ rfl (h.rw.tasks (h.tasks_only hg) ho) ⟨rfl, rfl⟩
theorem hand_mem (hB : Bd n s L) {y : Int} (hy : y ∈ s.views.getD s.hand []) : y ∈ L := by
  obtain ⟨pre, hmi, _⟩ := hB.inv.mi
  obtain ⟨hne, hl, _⟩ := hB.cur
  have hpos : 0 < s.cur.length := List.length_pos_iff.2 hne
  refine MI_mem hmi (j := s.cur.length - 1) (by omega) ?_
  have e : s.cur.getD (s.cur.length - 1) 0 = s.hand := by
    unfold St.hand
    rw [List.getLastD_eq_getLast?, List.getLast?_eq_getElem?, List.getD_eq_getElem?_getD]
  rw [e]
  exact hy
end
def R40a : Bool × List (List Nat × List Nat) := (true, [([], []), ([], []), ([1], [1]), ([2], [2]), ([3], [3]), ([], []), ([4, 5], [4, 5]), ([6], [6]), ([7], [7]), ([], []), ([9], [9]), ([0, 8, 10], [0, 8, 10]), ([11, 11, 0, 1, 2, 3, 4, 5, 6, 7, 8, 9, 10, 11], [11])])
def R40aB : List Nat := [0, 0, 2, 6, 14, 0, 62, 126, 254, 0, 512, 2047, 4095]
theorem R40a_tab : rtab .any (opsOf Tryd.f49 6) = R40a := by kernel_rfl
theorem R40a_bits : waitsOk R40a.2 R40aB = true := by kernel_rfl

set_option maxHeartbeats 8000000 in
set_option maxRecDepth 100000 in
theorem deed_write {w0 w : World} {gr : Nat} {F : List Int → Int} {op un : Int} {ps : List Int} {s : St (List Int)} {L : List Int} {n : Nat} (h : RT w0 w gr F op un ps s) (hB : Bd n s L) (hn : n ≤ 100000) {X : Int → Prop} (hPut : PutOk w0 gr op F X) (hX : ∀ y, y ∈ L → X y) (x at_ : Int) (hXx : X x) (sl : Value) :
    Calls Tryd.prog 49 #[.pointer (some ⟨gr, 0, none⟩), .int .i64 at_, .agg #[.int .i64 4, .int .i64 x], sl] w fun e w' => e = .returned (.tuple #[]) ∧ RT w0 w' gr F op un ps (s.write red x) := by
  obtain ⟨g, hrs, hrep, hsn, hsp⟩ := h
  obtain ⟨Pst, hI, hE⟩ : ∃ Pst : World → Prop, (∀ w', RT w0 w' gr F op un ps (s.write red x) → Pst w') ∧ (∀ w', Pst w' → RT w0 w' gr F op un ps (s.write red x)) := ⟨_, fun _ h => h, fun _ h => h⟩
  have HI := Aside0.mk hI
  refine Calls.mono (?_ : Calls Tryd.prog 49 #[.pointer (some ⟨gr, 0, none⟩), .int .i64 at_, .agg #[.int .i64 4, .int .i64 x], sl] w fun e w' => e = .returned (.tuple #[]) ∧ Pst w') (fun e w' ⟨h1, h2⟩ => ⟨h1, hE w' h2⟩)
  clear hI hE
  have hhl := hB.cur.2.2.1
  obtain ⟨hd, hhd⟩ : ∃ hd, s.hand = hd := ⟨_, rfl⟩
  have hvl := hrep.views_len
  obtain ⟨y, hy⟩ : ∃ y, s.views.getD hd [] = y := ⟨_, rfl⟩
  have hyl : y.length ≤ n := by
    have := hB.cur
    rw [← hy, ← hhd]
    exact this.2.2.2.1 _ this.2.2.1 this.2.2.2.2
  have hd2 : (hd : Int) ≤ 4194304 := by have := hB.views; omega
  have HXY := Aside0.mk (show ∀ z, z ∈ y → X z from fun z hz => hX z (hand_mem hB (by rw [hhd, hy]; exact hz)))
  have HPut := Aside0.mk hPut
  have HXx := Aside0.mk hXx
  clear hX hPut hXx
  obtain ⟨b, hb⟩ : ∃ b, w.heap.size = b := ⟨_, rfl⟩
  have HW1 := Aside0.mk (below_alloc (Below.refl w.heap.size w) (.cells #[.int .i64 4, .int .i64 x] 46))
  have HBk := Aside0.mk (show (w.alloc (.cells #[.int .i64 4, .int .i64 x] 46)).heap[b]? = some (.cells #[.int .i64 4, .int .i64 x] 46 (0, 0)) from hb ▸ heap_alloc_new _ _)
  have HRS := Aside0.mk hrs
  have HRep := Aside0.mk hrep
  have HB := Aside0.mk hB
  have HN := Aside0.mk hn
  have HH := Aside0.mk (And.intro hhd (And.intro hhl hy))
  have HYL := Aside0.mk hyl
  have HSp := Aside0.mk (And.intro hsn hsp)
  have HVL := Aside0.mk hvl
  have HOp := Aside0.mk hrep.op
  clear hrs hrep hB hn hhl hy hsn hsp hyl
  go_enter Tryd.func49, Tryd.ntmps49
  go_wp2_with fail
  refine (hand_at (HRS.out.below HW1.out) HRep.out HB.out HN.out).mono ?_
  rintro e w2 ⟨rfl, hdr⟩
  rw [HH.out.1]
  have HRS2 := Aside0.mk ((HRS.out.below HW1.out).below hdr.below)
  have HBk2 := Aside0.mk (blk_below HBk.out hdr.below)
  clear hdr HRS HW1 HBk hhd hvl
  obtain ⟨vb, vc, aA, ac, hvo, za, na, hRa⟩ := HRS2.out.view_R hd (by rw [HVL.out, ← HH.out.1]; exact HH.out.2.1)
  obtain ⟨vn, hvn⟩ : ∃ vn, g.vs.length = vn := ⟨_, rfl⟩
  have hga : g.vs.getD hd z66 = vS F y := by rw [HRep.out.view (by rw [← HH.out.1]; exact HH.out.2.1), HH.out.2.2]
  rw [hga] at za na hRa
  rw [hvn] at hvo
  replace za : w2.cell? ⟨vb, hd * 2, none⟩ = some (.slice aA y.length ac) := za
  replace na : w2.cell? ⟨vb, hd * 2 + 1, none⟩ = some (.int .i64 (F y)) := na
  have x2 : w2.cell? ⟨gr, 2, none⟩ = some (.slice (some ⟨vb, 0, none⟩) vn vc) := by rw [HRS2.out.cell.2.2.1, hvo]; rfl
  have HVn := Aside0.mk hvn
  have hlv : hd < vn := by rw [← hvn, HVL.out, ← HH.out.1]; exact HH.out.2.1
  have lv1 : ((hd : Int) < (vn : Int)) = True := eq_true (by omega)
  have HLV := Aside0.mk hlv
  have HCa := Aside0.mk (Kd.R_reads' hRa).2.2
  have HVO := Aside0.mk hvo
  obtain ⟨hb1, hb2, hb3⟩ : vb < w2.heap.size ∧ gr < w2.heap.size ∧ b < w2.heap.size := by
    obtain ⟨cells, hc⟩ := typed_of HRS2.out.rw.v vb (by rw [hvo]; rfl)
    exact ⟨blk_lt hc, blk_lt HRS2.out.bp, blk_lt HBk2.out⟩
  have HBlk := Aside0.mk (And.intro hb1 (And.intro hb2 hb3))
  have xk : w2.cell? ⟨b, 0, none⟩ = some (.int .i64 4) := (blk_cell HBk2.out 0).trans rfl
  have x1 : w2.cell? ⟨b, 1, none⟩ = some (.int .i64 x) := (blk_cell HBk2.out 1).trans rfl
  have HC := Aside0.mk (And.intro x2 (And.intro za (And.intro na (And.intro xk x1))))
  clear hRa hga hvo hvn hlv
  have HHb := Aside0.mk hb
  clear hb
  go_upto_region 5 with (first | ((with_reducible refine gate_builtin (b := .append) (xs := #[.tmp 19, .tmp 27]) rfl ?_); at_builtin; refine Kd.R_append_rows (Kd.int .i64) (w0 := w2) w2.heap.size rfl (.tmp 19) (.tmp 27) 36 2 (.int .i64 0) 8 rfl Tryd.underlying36 infoI64 rfl (by decide) (by omega) (.slice (some ⟨w2.heap.size, 0, none⟩) 0 0) [] y _ _ _ (fun _ => True) (fun _ => False) rfl rfl ?aO ?aR (fun _ _ h => h) (fun _ h => h.elim) ?aF ?aB ?aS ?aL ?_; (case aO => exact R_lit0 _ _ _); (case aR => exact Kd.C_alloc HCa.out _); (case aF => exact fun _ _ => trivial); (case aB => exact below_alloc (Below.refl _ _) _); (case aS => simp); (case aL => have := HYL.out; have := HN.out; simp only [List.length_nil]; omega); intro v3 w3 ho hb hg hat; obtain ⟨A3, c3, rfl, _, _⟩ := Kd.R_reads ho; have HA3 := Aside0.mk ho; have HB3 := Aside0.mk hb; clear ho hb hg hat))
  replace HA3 : Aside0 ((Kd.int .i64).R 2 w3 w2.heap.size (fun _ => True) (.slice A3 y.length c3) y) := HA3
  have x1' : w3.cell? ⟨b, 1, none⟩ = some (.int .i64 x) := (HB3.out.cell (p := ⟨b, 1, none⟩) HBlk.out.2.2).trans HC.out.2.2.2.2
  clear x2 za na xk x1 hb1 hb2 hb3
  go_upto_region 6 with (first | ((with_reducible refine gate_builtin (b := .append) (xs := #[.tmp 29, .tmp 32]) rfl ?_); at_builtin; refine Kd.R_append (Kd.int .i64) (w0 := w2) w2.heap.size rfl (.tmp 29) (.tmp 32) 36 2 (.int .i64 0) 8 rfl Tryd.underlying36 infoI64 rfl (by decide) (by omega) (.slice A3 y.length c3) y x [.int .i64 x] (fun _ => True) (fun _ => False) rfl rfl ?aP (fun _ hk => hk.elim) ?aF ?aO ?aB ?aS ?aL ?_; (case aP => exact rfl); (case aB => exact HB3.out); (case aF => exact fun _ _ => trivial); (case aO => exact HA3.out); (case aS => exact HB3.out.size); (case aL => have := HYL.out; have := HN.out; omega); intro v4 w4 ho hb hg hat; obtain ⟨A4, c4, rfl, _, _⟩ := Kd.R_reads ho; have HA4 := Aside0.mk ho; have HB4 := Aside0.mk hb; clear ho hb hg hat))
  clear x1'
  have HC4 := Aside0.mk (show ∀ w', Below w4.heap.size w4 w' → w'.cell? ⟨gr, 2, none⟩ = some (.slice (some ⟨vb, 0, none⟩) vn vc) ∧ w'.cell? ⟨vb, hd * 2 + 1, none⟩ = some (.int .i64 (F y)) ∧ w'.cell? ⟨b, 1, none⟩ = some (.int .i64 x) from fun w' hb => by
    have hs := HB4.out.size
    have hq : ∀ b i, b < w2.heap.size → w'.cell? ⟨b, i, none⟩ = w2.cell? ⟨b, i, none⟩ := fun b i hlt => (hb.cell (p := ⟨b, i, none⟩) (Nat.lt_of_lt_of_le hlt hs)).trans (HB4.out.cell (p := ⟨b, i, none⟩) hlt)
    exact ⟨(hq _ _ HBlk.out.2.1).trans HC.out.1, (hq _ _ HBlk.out.1).trans HC.out.2.2.1, (hq _ _ HBlk.out.2.2).trans HC.out.2.2.2.2⟩)
  refine start_ (n := 13) (S := (fun w' => w'.cell? ⟨gr, 2, none⟩ = some (.slice (some ⟨vb, 0, none⟩) vn vc) ∧ w'.cell? ⟨vb, hd * 2 + 1, none⟩ = some (.int .i64 (F y)) ∧ w'.cell? ⟨b, 1, none⟩ = some (.int .i64 x))) (ds := [12]) #[false, false, false, false, false, false, false, false, false, false, false, false, false] (by kernel_rfl) rfl rfl (HC4.out w4 (Below.refl _ _)) (fun hHeld => ?_); refine with_tabW R40a_tab R40a_bits (fun HT_ HW_ => ?_)
  have HB4b := Aside0.mk (show Below w4.heap.size w4 w4.drew from Drawn0.below ⟨⟨1, rfl⟩⟩)
  generalize w4.drew = w4b at HB4b hHeld ⊢
  refine pure_ (i := 0) (N := some 34) (v := ?_) (a' := ?_) #[true, false, false, false, false, false, false, false, false, false, false, false, false] rfl rfl (any_of HT_.out (by kernel_rfl)) (fun _ _ _ h => h) (Or.inl ⟨by rfl, ?_⟩) ?_ ?_
  rotate_left
  · intro w'
    go_simp
    with_reducible rfl
  rotate_left
  · simp only [Act.put, List.setIfInBounds_toArray, List.set_cons_zero, List.set_cons_succ, i64_w, i32_w]
    rfl
  refine pure_ (i := 1) (N := some 35) (v := ?_) (a' := ?_) #[true, true, false, false, false, false, false, false, false, false, false, false, false] rfl rfl (any_of HT_.out (by kernel_rfl)) (fun _ _ _ h => h) (Or.inl ⟨by rfl, ?_⟩) ?_ ?_
  rotate_left
  · intro w'
    go_simp
    with_reducible rfl
  rotate_left
  · simp only [Act.put, List.setIfInBounds_toArray, List.set_cons_zero, List.set_cons_succ, i64_w, i32_w]
    rfl
  refine pure_ (i := 2) (N := some 36) (v := ?_) (a' := ?_) #[true, true, true, false, false, false, false, false, false, false, false, false, false] rfl rfl (any_of HT_.out (by kernel_rfl)) (fun _ _ _ h => h) (Or.inl ⟨by rfl, ?_⟩) ?_ ?_
  rotate_left
  · intro w'
    go_simp
    with_reducible rfl
  rotate_left
  · simp only [Act.put, List.setIfInBounds_toArray, List.set_cons_zero, List.set_cons_succ, i64_w, i32_w]
    rfl
  refine pure_ (i := 3) (N := some 37) (v := ?_) (a' := ?_) #[true, true, true, true, false, false, false, false, false, false, false, false, false] rfl rfl (any_of HT_.out (by kernel_rfl)) (fun _ _ _ h => h) (Or.inl ⟨by rfl, ?_⟩) ?_ ?_
  rotate_left
  · intro w'
    go_simp
    with_reducible rfl
  rotate_left
  · simp only [Act.put, List.setIfInBounds_toArray, List.set_cons_zero, List.set_cons_succ, i64_w, i32_w]
    rfl
  refine take_ (i := 4) (N := some 38) (v := ?_) (a' := ?_) #[true, true, true, true, true, false, false, false, false, false, false, false, false] rfl rfl (take_ofW HT_.out HW_.out (by kernel_rfl)) (fun _ _ _ h => h) (Or.inl ⟨by rfl, ?_⟩) hHeld ?_ ?_
  rotate_left
  · rintro w' ⟨s0, s1, s2⟩
    go_simp
    with_reducible rfl
  rotate_left
  · simp only [Act.put, List.setIfInBounds_toArray, List.set_cons_zero, List.set_cons_succ, i64_w, i32_w]
    rfl
  refine pure_ (i := 5) (N := some 39) (v := ?_) (a' := ?_) #[true, true, true, true, true, true, false, false, false, false, false, false, false] rfl rfl (any_of HT_.out (by kernel_rfl)) (fun _ _ _ h => h) (Or.inl ⟨by rfl, ?_⟩) ?_ ?_
  rotate_left
  · intro w'
    go_simp
    with_reducible rfl
  rotate_left
  · simp only [Act.put, List.setIfInBounds_toArray, List.set_cons_zero, List.set_cons_succ, i64_w, i32_w]
    rfl
  refine pure_ (i := 6) (N := some 40) (v := ?_) (a' := ?_) #[true, true, true, true, true, true, true, false, false, false, false, false, false] rfl rfl (any_of HT_.out (by kernel_rfl)) (fun _ _ _ h => h) (Or.inl ⟨by rfl, ?_⟩) ?_ ?_
  rotate_left
  · intro w'
    go_simp
    with_reducible rfl
  rotate_left
  · simp only [Act.put, List.setIfInBounds_toArray, List.set_cons_zero, List.set_cons_succ, i64_w, i32_w]
    rfl
  refine pure_ (i := 7) (N := some 41) (v := ?_) (a' := ?_) #[true, true, true, true, true, true, true, true, false, false, false, false, false] rfl rfl (any_of HT_.out (by kernel_rfl)) (fun _ _ _ h => h) (Or.inl ⟨by rfl, ?_⟩) ?_ ?_
  rotate_left
  · intro w'
    go_simp
    with_reducible rfl
  rotate_left
  · simp only [Act.put, List.setIfInBounds_toArray, List.set_cons_zero, List.set_cons_succ, i64_w, i32_w]
    rfl
  refine take_ (i := 8) (N := some 42) (v := ?_) (a' := ?_) #[true, true, true, true, true, true, true, true, true, false, false, false, false] rfl rfl (take_ofW HT_.out HW_.out (by kernel_rfl)) (fun _ _ _ h => h) (Or.inl ⟨by rfl, ?_⟩) hHeld ?_ ?_
  rotate_left
  · rintro w' ⟨s0, s1, s2⟩
    go_simp
    with_reducible rfl
  rotate_left
  · simp only [Act.put, List.setIfInBounds_toArray, List.set_cons_zero, List.set_cons_succ, i64_w, i32_w]
    rfl
  refine pure_ (i := 9) (N := some 43) (v := ?_) (a' := ?_) #[true, true, true, true, true, true, true, true, true, true, false, false, false] rfl rfl (any_of HT_.out (by kernel_rfl)) (fun _ _ _ h => h) (Or.inl ⟨by rfl, ?_⟩) ?_ ?_
  rotate_left
  · intro w'
    go_simp
    with_reducible rfl
  rotate_left
  · simp only [Act.put, List.setIfInBounds_toArray, List.set_cons_zero, List.set_cons_succ, i64_w, i32_w]
    rfl
  refine take_ (i := 10) (N := some 44) (v := ?_) (a' := ?_) #[true, true, true, true, true, true, true, true, true, true, true, false, false] rfl rfl (take_ofW HT_.out HW_.out (by kernel_rfl)) (fun _ _ _ h => h) (Or.inl ⟨by rfl, ?_⟩) hHeld ?_ ?_
  rotate_left
  · rintro w' ⟨s0, s1, s2⟩
    go_simp
    with_reducible rfl
  rotate_left
  · simp only [Act.put, List.setIfInBounds_toArray, List.set_cons_zero, List.set_cons_succ, i64_w, i32_w]
    rfl
  refine one_ (i := 11) (N := some 45) #[true, true, true, true, true, true, true, true, true, true, true, true, false] rfl rfl (one_of HT_.out (by kernel_rfl)) (by decide) (fun K hK => ?_)
  refine goes_ Tryd.func66 (by kernel_rfl) rfl #[.pointer (some ⟨gr, 0, none⟩), .int .i64 (F y), .int .i64 x] (by rfl) rfl rfl (by (try simp only [List.map_toArray, List.map_cons, List.map_nil]); first | done | rfl) ?_
  with_reducible refine (HPut.out.at_ w4b g y x ((HRS2.out.below HB4.out).below HB4b.out) HOp.out HXY.out HXx.out).mono ?_
  rintro e w5 ⟨rfl, hd⟩
  have HB5 := Aside0.mk (below_step HB4b.out hd)
  clear hd
  refine ⟨_, rfl, ?_⟩
  refine hK.out _ _ (HC4.out w5 HB5.out) (fun hHeld => ?_)
  clear hK K
  refine norm_ (a' := ?_) ?_ ?_
  rotate_left
  · show Act.put _ (some 45) _ = _
    simp only [Act.put, List.setIfInBounds_toArray, List.set_cons_zero, List.set_cons_succ, i64_w, i32_w]
    rfl
  refine pure_ (i := 12) (N := some 10) (v := ?_) (a' := ?_) #[true, true, true, true, true, true, true, true, true, true, true, true, true] rfl rfl (any_of HT_.out (by kernel_rfl)) (fun _ _ _ h => h) (Or.inl ⟨by rfl, ?_⟩) ?_ ?_
  rotate_left
  · intro w'
    go_simp
    with_reducible rfl
  rotate_left
  · simp only [Act.put, List.setIfInBounds_toArray, List.set_cons_zero, List.set_cons_succ, i64_w, i32_w]
    rfl
  refine done_ (done_of HT_.out (by kernel_rfl)) ?_
  clear HT_ HW_ hHeld

  have HRS5 := Aside0.mk ((HRS2.out.below HB4.out).below HB5.out)
  have HB25 := Aside0.mk (show Below w2.heap.size w2 w5 from below_step HB4.out HB5.out)
  have hA5 := Kd.R_below HA4.out HB5.out
  rw [List.length_append, List.length_singleton] at hA5
  have HA5 := Aside0.mk hA5
  clear hA5 HA4 HA3
  have x2 : w5.cell? ⟨gr, 2, none⟩ = some (.slice (some ⟨vb, 0, none⟩) vn vc) := (HC4.out w5 HB5.out).1
  have HZN := Aside0.mk (And.intro (show w5.cell? ⟨vb, hd * 2, none⟩ = some (.slice aA y.length ac) from (HB25.out.cell (p := ⟨vb, hd * 2, none⟩) HBlk.out.1).trans HC.out.2.1) (HC4.out w5 HB5.out).2.1)
  go_wp2_with (first | ((with_reducible refine gate_store (t := 66) (p := 54) (v := .tmp 53) rfl ?_); refine Kd.R_store k66 (w0 := w0) w0.heap.size rfl rfl 66 (.tmp 54) (.tmp 53) rfl 66 (g := vb) (n := vn) (cap := vc) (o' := hd * 2) (hd : Int) 0 g.vs (vS F (y ++ [x])) (.agg #[.slice A4 (y.length + 1) c4, .int .i64 (F (y ++ [x]))]) [.slice A4 (y.length + 1) c4, .int .i64 (F (y ++ [x]))] [.slice aA y.length ac, .int .i64 (F y)] (fun _ => True) (fun q => q ≠ vb) rfl ?hoff rfl rfl sizeView ?h1 ?HO ?h0 ?hi rfl (two_cells HZN.out.1 HZN.out.2) (show 2 ≤ 2 from Nat.le_refl 2) ?hM ?hokp ?HB ?_; (case hoff => rw [Int.toNat_natCast]; rfl); (case h1 => intro q hq; simp at hq; rcases hq with rfl | rfl <;> rfl); (case HO => have h := HRS5.out.rw.v; rw [HVO.out] at h; exact h); (case h0 => omega); (case hi => have := HLV.out; omega); (case hM => exact k66_mkM w5 w0.heap.size (fun q => q ≠ vb) (vS F (y ++ [x])) (Kd.R_mono (Kd.R_lower (Kd.R_bound HA5.out) (HRS2.out.hb.size)) (fun q hq e => by have := hq.2.1; have := HBlk.out.1; omega))); (case hokp => exact fun q hq => ⟨trivial, hq⟩); (case HB => exact HRS5.out.hb); intro w6 ho hb hg; have HG6 := Aside0.mk (And.intro ho (And.intro hb hg)); clear ho hb hg))
  go_end0
  obtain ⟨ho6, hb6, hg6⟩ := HG6.out
  rw [Int.toNat_natCast] at ho6
  have hrs6 := HRS5.out.view_put HVO.out ho6 hb6 hg6
  refine ⟨rfl, HI.out _ ⟨_, hrs6, ⟨HRep.out.op, HRep.out.un, HRep.out.pl, ?_, HRep.out.ls, HRep.out.ts, HRep.out.ps, HRep.out.nx, HRep.out.ms⟩, HSp.out.1, HSp.out.2⟩⟩
  show g.vs.set hd (vS F (y ++ [x])) = (s.views.set s.hand (red.put (s.views.getD s.hand red.fresh) x)).map (vS F)
  rw [List.map_set, HRep.out.vs, HH.out.1, ← HH.out.2.2]
  rfl
def R40b : Bool × List (List Nat × List Nat) := (true, [([], []), ([], []), ([1], [1]), ([2], [2]), ([3], [3]), ([4], [4]), ([], []), ([], []), ([7], [7]), ([8], [8]), ([9], [9]), ([], []), ([10, 11], [10, 11]), ([12], [12]), ([13], [13]), ([6, 14], [6, 14]), ([15], [15]), ([5, 16, 15], [5, 16]), ([0, 0, 1, 2, 3, 4, 5, 6, 7, 8, 9, 10, 11, 12, 13, 14, 15, 16, 17], [0]), ([18, 0, 1, 2, 3, 4, 5, 6, 7, 8, 9, 10, 11, 12, 13, 14, 15, 16, 17], [18]), ([19, 0, 1, 2, 3, 4, 5, 6, 7, 8, 9, 10, 11, 12, 13, 14, 15, 16, 17], [19]), ([20, 17, 17, 0, 1, 2, 3, 4, 5, 6, 7, 8, 9, 10, 11, 12, 13, 14, 15, 16, 17], [17, 20])])
def R40bB : List Nat := [0, 0, 2, 6, 14, 30, 0, 0, 128, 384, 896, 0, 3968, 8064, 16256, 32704, 65472, 131070, 262143, 524287, 1048575, 2097151]
theorem R40b_tab : rtab .any (opsOf Tryd.f49 9) = R40b := by kernel_rfl
theorem R40b_bits : waitsOk R40b.2 R40bB = true := by kernel_rfl

set_option maxHeartbeats 8000000 in
set_option maxRecDepth 100000 in
theorem deed_read {w0 w : World} {gr : Nat} {F : List Int → Int} {op un : Int} {ps : List Int} {s : St (List Int)} {L : List Int} {n : Nat} (h : RT w0 w gr F op un ps s) (hB : Bd n s L) (hn : n ≤ 100000) (x at_ : Int) (sl : Value) :
    Calls Tryd.prog 49 #[.pointer (some ⟨gr, 0, none⟩), .int .i64 at_, .agg #[.int .i64 3, .int .i64 x], sl] w fun e w' => e = .returned (.tuple #[]) ∧ RT w0 w' gr F op un ps (s.read red) := by
  obtain ⟨g, hrs, hrep, hsn, hsp⟩ := h
  obtain ⟨Pst, hI, hE⟩ : ∃ Pst : World → Prop, (∀ w', RT w0 w' gr F op un ps (s.read red) → Pst w') ∧ (∀ w', Pst w' → RT w0 w' gr F op un ps (s.read red)) := ⟨_, fun _ h => h, fun _ h => h⟩
  have HI := Aside0.mk hI
  refine Calls.mono (?_ : Calls Tryd.prog 49 #[.pointer (some ⟨gr, 0, none⟩), .int .i64 at_, .agg #[.int .i64 3, .int .i64 x], sl] w fun e w' => e = .returned (.tuple #[]) ∧ Pst w') (fun e w' ⟨h1, h2⟩ => ⟨h1, hE w' h2⟩)
  clear hI hE
  have hhl := hB.cur.2.2.1
  obtain ⟨hd, hhd⟩ : ∃ hd, s.hand = hd := ⟨_, rfl⟩
  have hvl := hrep.views_len
  obtain ⟨y, hy⟩ : ∃ y, s.views.getD hd [] = y := ⟨_, rfl⟩
  have hyl : y.length ≤ n := by
    have := hB.cur
    rw [← hy, ← hhd]
    exact this.2.2.2.1 _ this.2.2.1 this.2.2.2.2
  have hd2 : (hd : Int) ≤ 4194304 := by have := hB.views; omega
  obtain ⟨b, hb⟩ : ∃ b, w.heap.size = b := ⟨_, rfl⟩
  have HW1 := Aside0.mk (below_alloc (Below.refl w.heap.size w) (.cells #[.int .i64 3, .int .i64 x] 46))
  have HBk := Aside0.mk (show (w.alloc (.cells #[.int .i64 3, .int .i64 x] 46)).heap[b]? = some (.cells #[.int .i64 3, .int .i64 x] 46 (0, 0)) from hb ▸ heap_alloc_new _ _)
  have HRS := Aside0.mk hrs
  have HRep := Aside0.mk hrep
  have HB := Aside0.mk hB
  have HN := Aside0.mk hn
  have HH := Aside0.mk (And.intro hhd (And.intro hhl hy))
  have HYL := Aside0.mk hyl
  have HSp := Aside0.mk (And.intro hsn hsp)
  have HVL := Aside0.mk hvl
  have HOp := Aside0.mk hrep.op
  clear hrs hrep hB hn hhl hy hsn hsp hyl
  go_enter Tryd.func49, Tryd.ntmps49
  go_wp2_with fail
  refine (hand_at (HRS.out.below HW1.out) HRep.out HB.out HN.out).mono ?_
  rintro e w2 ⟨rfl, hdr⟩
  rw [HH.out.1]
  have HRS2 := Aside0.mk ((HRS.out.below HW1.out).below hdr.below)
  have HBk2 := Aside0.mk (blk_below HBk.out hdr.below)
  clear hdr HRS HW1 HBk hhd hvl
  obtain ⟨vb, vc, aA, ac, hvo, za, na, hRa⟩ := HRS2.out.view_R hd (by rw [HVL.out, ← HH.out.1]; exact HH.out.2.1)
  obtain ⟨vn, hvn⟩ : ∃ vn, g.vs.length = vn := ⟨_, rfl⟩
  have hga : g.vs.getD hd z66 = vS F y := by rw [HRep.out.view (by rw [← HH.out.1]; exact HH.out.2.1), HH.out.2.2]
  rw [hga] at za na hRa
  rw [hvn] at hvo
  replace za : w2.cell? ⟨vb, hd * 2, none⟩ = some (.slice aA y.length ac) := za
  replace na : w2.cell? ⟨vb, hd * 2 + 1, none⟩ = some (.int .i64 (F y)) := na
  have x2 : w2.cell? ⟨gr, 2, none⟩ = some (.slice (some ⟨vb, 0, none⟩) vn vc) := by rw [HRS2.out.cell.2.2.1, hvo]; rfl
  have HVn := Aside0.mk hvn
  have hlv : hd < vn := by rw [← hvn, HVL.out, ← HH.out.1]; exact HH.out.2.1
  have lv1 : ((hd : Int) < (vn : Int)) = True := eq_true (by omega)
  have HLV := Aside0.mk hlv
  have HCa := Aside0.mk (Kd.R_reads' hRa).2.2
  have HVO := Aside0.mk hvo
  obtain ⟨hb1, hb2, hb3⟩ : vb < w2.heap.size ∧ gr < w2.heap.size ∧ b < w2.heap.size := by
    obtain ⟨cells, hc⟩ := typed_of HRS2.out.rw.v vb (by rw [hvo]; rfl)
    exact ⟨blk_lt hc, blk_lt HRS2.out.bp, blk_lt HBk2.out⟩
  have HBlk := Aside0.mk (And.intro hb1 (And.intro hb2 hb3))
  have xk : w2.cell? ⟨b, 0, none⟩ = some (.int .i64 3) := (blk_cell HBk2.out 0).trans rfl
  have x1 : w2.cell? ⟨b, 1, none⟩ = some (.int .i64 x) := (blk_cell HBk2.out 1).trans rfl
  have HC := Aside0.mk (And.intro x2 (And.intro za (And.intro na (And.intro xk x1))))
  clear hRa hga hvo hvn hlv
  have HHb := Aside0.mk hb
  obtain ⟨⟨lA, ln, lc⟩, hlo⟩ : ∃ t : Sl, g.lo = t := ⟨_, rfl⟩
  have HLO := Aside0.mk (show slv g.lo = .slice lA ln lc by rw [hlo]; rfl)
  have HLL := Aside0.mk (show g.ls.length ≤ 100000 by rw [HRep.out.ls]; have := HB.out.looks; have := HN.out; omega)
  have HLB := Aside0.mk (show ∀ q, some q = (Value.slice lA ln lc).ownBlock → q < w2.heap.size from fun q hq => by
    obtain ⟨cells, hc⟩ := typed_of HRS2.out.rw.l q (by rw [HLO.out]; exact hq.symm)
    exact blk_lt hc)
  have HC9 := Aside0.mk (show ∀ w', Below w2.heap.size w2 w' → w'.cell? ⟨gr, 10, none⟩ = some (.slice lA ln lc) ∧ w'.cell? ⟨gr, 2, none⟩ = some (.slice (some ⟨vb, 0, none⟩) vn vc) ∧ w'.cell? ⟨vb, hd * 2, none⟩ = some (.slice aA y.length ac) from fun w' hb => by
    have hq : ∀ b i, b < w2.heap.size → w'.cell? ⟨b, i, none⟩ = w2.cell? ⟨b, i, none⟩ := fun b i hlt => hb.cell (p := ⟨b, i, none⟩) hlt
    exact ⟨(hq _ _ HBlk.out.2.1).trans (by rw [HRS2.out.cell.2.2.2.2.2.2.2.2, HLO.out]), (hq _ _ HBlk.out.2.1).trans HC.out.1, (hq _ _ HBlk.out.1).trans HC.out.2.1⟩)
  have HC9b := Aside0.mk (show ∀ w4 w5, Below w2.heap.size w2 w4 → Only 36 w4 w5 → w5.heap[gr]? = some (.cells (cells g) 70 (0, 0)) → w5.cell? ⟨gr, 10, none⟩ = some (.slice lA ln lc) ∧ w5.cell? ⟨gr, 2, none⟩ = some (.slice (some ⟨vb, 0, none⟩) vn vc) ∧ w5.cell? ⟨vb, hd * 2, none⟩ = some (.slice aA y.length ac) from fun w4 w5 hb ho hbp => by
    obtain ⟨cells, hc⟩ := typed_of HRS2.out.rw.v vb (by rw [HVO.out]; rfl)
    have h4 := HC9.out w4 hb
    have hv := ho vb _ _ (blk_below hc hb) (by decide)
    refine ⟨(blk_cell hbp 10).trans (by show some (slv g.lo) = _; rw [HLO.out]), (blk_cell hbp 2).trans (by show some (slv g.vo) = _; rw [HVO.out]; rfl), ?_⟩
    exact (World.cell?_of_block (hv.trans (blk_below hc hb).symm)).trans h4.2.2)
  clear hlo hb
  go_upto_region 9 with fail
  clear x2 za na xk x1 hb1 hb2 hb3
  refine start_ (n := 22) (S := (fun w' => w'.cell? ⟨gr, 10, none⟩ = some (.slice lA ln lc) ∧ w'.cell? ⟨gr, 2, none⟩ = some (.slice (some ⟨vb, 0, none⟩) vn vc) ∧ w'.cell? ⟨vb, hd * 2, none⟩ = some (.slice aA y.length ac))) (ds := [21]) #[false, false, false, false, false, false, false, false, false, false, false, false, false, false, false, false, false, false, false, false, false, false] (by kernel_rfl) rfl rfl (HC9.out w2 (Below.refl _ _)) (fun hHeld => ?_); refine with_tabW R40b_tab R40b_bits (fun HT_ HW_ => ?_)
  have HBb := Aside0.mk (show Below w2.heap.size w2 w2.drew from Drawn0.below ⟨⟨1, rfl⟩⟩)
  generalize w2.drew = w3 at HBb hHeld ⊢
  have HRS3 := Aside0.mk (HRS2.out.below HBb.out)
  refine pure_ (i := 0) (N := some 57) (v := ?_) (a' := ?_) #[true, false, false, false, false, false, false, false, false, false, false, false, false, false, false, false, false, false, false, false, false, false] rfl rfl (any_of HT_.out (by kernel_rfl)) (fun _ _ _ h => h) (Or.inl ⟨by rfl, ?_⟩) ?_ ?_
  rotate_left
  · intro w'
    go_simp
    with_reducible rfl
  rotate_left
  · simp only [Act.put, List.setIfInBounds_toArray, List.set_cons_zero, List.set_cons_succ, i64_w, i32_w]
    rfl
  refine pure_ (i := 1) (N := some 58) (v := ?_) (a' := ?_) #[true, true, false, false, false, false, false, false, false, false, false, false, false, false, false, false, false, false, false, false, false, false] rfl rfl (any_of HT_.out (by kernel_rfl)) (fun _ _ _ h => h) (Or.inl ⟨by rfl, ?_⟩) ?_ ?_
  rotate_left
  · intro w'
    go_simp
    with_reducible rfl
  rotate_left
  · simp only [Act.put, List.setIfInBounds_toArray, List.set_cons_zero, List.set_cons_succ, i64_w, i32_w]
    rfl
  refine pure_ (i := 2) (N := some 59) (v := ?_) (a' := ?_) #[true, true, true, false, false, false, false, false, false, false, false, false, false, false, false, false, false, false, false, false, false, false] rfl rfl (any_of HT_.out (by kernel_rfl)) (fun _ _ _ h => h) (Or.inl ⟨by rfl, ?_⟩) ?_ ?_
  rotate_left
  · intro w'
    go_simp
    with_reducible rfl
  rotate_left
  · simp only [Act.put, List.setIfInBounds_toArray, List.set_cons_zero, List.set_cons_succ, i64_w, i32_w]
    rfl
  refine pure_ (i := 3) (N := some 60) (v := ?_) (a' := ?_) #[true, true, true, true, false, false, false, false, false, false, false, false, false, false, false, false, false, false, false, false, false, false] rfl rfl (any_of HT_.out (by kernel_rfl)) (fun _ _ _ h => h) (Or.inl ⟨by rfl, ?_⟩) ?_ ?_
  rotate_left
  · intro w'
    go_simp
    with_reducible rfl
  rotate_left
  · simp only [Act.put, List.setIfInBounds_toArray, List.set_cons_zero, List.set_cons_succ, i64_w, i32_w]
    rfl
  refine pure_ (i := 4) (N := some 61) (v := ?_) (a' := ?_) #[true, true, true, true, true, false, false, false, false, false, false, false, false, false, false, false, false, false, false, false, false, false] rfl rfl (any_of HT_.out (by kernel_rfl)) (fun _ _ _ h => h) (Or.inl ⟨by rfl, ?_⟩) ?_ ?_
  rotate_left
  · intro w'
    go_simp
    with_reducible rfl
  rotate_left
  · simp only [Act.put, List.setIfInBounds_toArray, List.set_cons_zero, List.set_cons_succ, i64_w, i32_w]
    rfl
  refine take_ (i := 5) (N := some 62) (v := ?_) (a' := ?_) #[true, true, true, true, true, true, false, false, false, false, false, false, false, false, false, false, false, false, false, false, false, false] rfl rfl (take_ofW HT_.out HW_.out (by kernel_rfl)) (fun _ _ _ h => h) (Or.inl ⟨by rfl, ?_⟩) hHeld ?_ ?_
  rotate_left
  · rintro w' ⟨s0, s1, s2⟩
    go_simp
    with_reducible rfl
  rotate_left
  · simp only [Act.put, List.setIfInBounds_toArray, List.set_cons_zero, List.set_cons_succ, i64_w, i32_w]
    rfl
  refine pure_ (i := 7) (N := some 64) (v := ?_) (a' := ?_) #[true, true, true, true, true, true, false, true, false, false, false, false, false, false, false, false, false, false, false, false, false, false] rfl rfl (any_of HT_.out (by kernel_rfl)) (fun _ _ _ h => h) (Or.inl ⟨by rfl, ?_⟩) ?_ ?_
  rotate_left
  · intro w'
    go_simp
    with_reducible rfl
  rotate_left
  · simp only [Act.put, List.setIfInBounds_toArray, List.set_cons_zero, List.set_cons_succ, i64_w, i32_w]
    rfl
  refine pure_ (i := 8) (N := some 65) (v := ?_) (a' := ?_) #[true, true, true, true, true, true, false, true, true, false, false, false, false, false, false, false, false, false, false, false, false, false] rfl rfl (any_of HT_.out (by kernel_rfl)) (fun _ _ _ h => h) (Or.inl ⟨by rfl, ?_⟩) ?_ ?_
  rotate_left
  · intro w'
    go_simp
    with_reducible rfl
  rotate_left
  · simp only [Act.put, List.setIfInBounds_toArray, List.set_cons_zero, List.set_cons_succ, i64_w, i32_w]
    rfl
  refine pure_ (i := 9) (N := some 66) (v := ?_) (a' := ?_) #[true, true, true, true, true, true, false, true, true, true, false, false, false, false, false, false, false, false, false, false, false, false] rfl rfl (any_of HT_.out (by kernel_rfl)) (fun _ _ _ h => h) (Or.inl ⟨by rfl, ?_⟩) ?_ ?_
  rotate_left
  · intro w'
    go_simp
    with_reducible rfl
  rotate_left
  · simp only [Act.put, List.setIfInBounds_toArray, List.set_cons_zero, List.set_cons_succ, i64_w, i32_w]
    rfl
  refine take_ (i := 10) (N := some 67) (v := ?_) (a' := ?_) #[true, true, true, true, true, true, false, true, true, true, true, false, false, false, false, false, false, false, false, false, false, false] rfl rfl (take_ofW HT_.out HW_.out (by kernel_rfl)) (fun _ _ _ h => h) (Or.inl ⟨by rfl, ?_⟩) hHeld ?_ ?_
  rotate_left
  · rintro w' ⟨s0, s1, s2⟩
    go_simp
    with_reducible rfl
  rotate_left
  · simp only [Act.put, List.setIfInBounds_toArray, List.set_cons_zero, List.set_cons_succ, i64_w, i32_w]
    rfl
  refine pure_ (i := 11) (N := some 68) (v := ?_) (a' := ?_) #[true, true, true, true, true, true, false, true, true, true, true, true, false, false, false, false, false, false, false, false, false, false] rfl rfl (any_of HT_.out (by kernel_rfl)) (fun _ _ _ h => h) (Or.inl ⟨by rfl, ?_⟩) ?_ ?_
  rotate_left
  · intro w'
    go_simp
    with_reducible rfl
  rotate_left
  · simp only [Act.put, List.setIfInBounds_toArray, List.set_cons_zero, List.set_cons_succ, i64_w, i32_w]
    rfl
  refine pure_ (i := 12) (N := some 69) (v := ?_) (a' := ?_) #[true, true, true, true, true, true, false, true, true, true, true, true, true, false, false, false, false, false, false, false, false, false] rfl rfl (any_of HT_.out (by kernel_rfl)) (fun _ _ _ h => h) (Or.inl ⟨by rfl, ?_⟩) ?_ ?_
  rotate_left
  · intro w'
    go_simp
    with_reducible rfl
  rotate_left
  · simp only [Act.put, List.setIfInBounds_toArray, List.set_cons_zero, List.set_cons_succ, i64_w, i32_w]
    rfl
  refine pure_ (i := 13) (N := some 70) (v := ?_) (a' := ?_) #[true, true, true, true, true, true, false, true, true, true, true, true, true, true, false, false, false, false, false, false, false, false] rfl rfl (any_of HT_.out (by kernel_rfl)) (fun _ _ _ h => h) (Or.inl ⟨by rfl, ?_⟩) ?_ ?_
  rotate_left
  · intro w'
    go_simp
    with_reducible rfl
  rotate_left
  · simp only [Act.put, List.setIfInBounds_toArray, List.set_cons_zero, List.set_cons_succ, i64_w, i32_w]
    rfl
  refine take_ (i := 14) (N := some 71) (v := ?_) (a' := ?_) #[true, true, true, true, true, true, false, true, true, true, true, true, true, true, true, false, false, false, false, false, false, false] rfl rfl (take_ofW HT_.out HW_.out (by kernel_rfl)) (fun _ _ _ h => h) (Or.inl ⟨by rfl, ?_⟩) hHeld ?_ ?_
  rotate_left
  · rintro w' ⟨s0, s1, s2⟩
    go_simp
    with_reducible rfl
  rotate_left
  · simp only [Act.put, List.setIfInBounds_toArray, List.set_cons_zero, List.set_cons_succ, i64_w, i32_w]
    rfl
  refine one_ (i := 6) (N := some 63) #[true, true, true, true, true, true, true, true, true, true, true, true, true, true, true, false, false, false, false, false, false, false] rfl rfl (one_of HT_.out (by kernel_rfl)) (by decide) (fun K hK => ?_)
  refine value_ (w1 := ?_) (v := ?_) (by rfl) rfl ?_ ?_
  rotate_left 2
  · go_simp
    constructor
    · rfl
    · rfl
  refine hK.out _ _ (HC9.out _ (below_step HBb.out (below_alloc (Below.refl _ _) _))) (fun hHeld => ?_)
  clear hK K
  refine norm_ (a' := ?_) ?_ ?_
  rotate_left
  · show Act.put _ (some 63) _ = _
    simp only [Act.put, List.setIfInBounds_toArray, List.set_cons_zero, List.set_cons_succ, i64_w, i32_w]
    rfl
  refine one_ (i := 15) (N := some 72) #[true, true, true, true, true, true, true, true, true, true, true, true, true, true, true, true, false, false, false, false, false, false] rfl rfl (one_of HT_.out (by kernel_rfl)) (by decide) (fun K hK => ?_)
  refine Kd.R_append_rows_step (Kd.int .i64) (w0 := w3) w3.heap.size (by rfl) (.tmp 63) (.tmp 71) 36 2 (.int .i64 0) 8 rfl Tryd.underlying36 infoI64 rfl (by decide) (by omega) (.slice (some ⟨w3.heap.size, 0, none⟩) 0 0) [] y _ _ _ (fun _ => True) (fun _ => False) rfl rfl ?aO ?aR (fun _ _ h => h) (fun _ h => h.elim) ?aF ?aB ?aS ?aL ?_
  (case aO => exact R_lit0 _ _ _)
  (case aR => exact Kd.C_alloc (Kd.C_below HCa.out HBb.out) _)
  (case aF => exact fun _ _ => trivial)
  (case aB => exact below_alloc (Below.refl _ _) _)
  (case aS => exact by simp)
  (case aL => have := HYL.out; have := HN.out; simp only [List.length_nil]; omega)
  intro v4 w4 ho hb hg hat
  obtain ⟨A4, c4, rfl, _, _⟩ := Kd.R_reads ho
  have HA4 := Aside0.mk (show (Kd.int .i64).R 2 w4 w3.heap.size (fun _ => True) (.slice A4 y.length c4) y from ho)
  have HB4 := Aside0.mk hb
  clear ho hb hg hat
  refine hK.out _ _ (HC9.out _ (below_step HBb.out HB4.out)) (fun hHeld => ?_)
  clear hK K
  refine norm_ (a' := ?_) ?_ ?_
  rotate_left
  · show Act.put _ (some 72) _ = _
    simp only [Act.put, List.setIfInBounds_toArray, List.set_cons_zero, List.set_cons_succ, i64_w, i32_w]
    rfl
  rw [List.nil_append]
  refine one_ (i := 16) (N := some 73) #[true, true, true, true, true, true, true, true, true, true, true, true, true, true, true, true, true, false, false, false, false, false] rfl rfl (one_of HT_.out (by kernel_rfl)) (by decide) (fun K hK => ?_)
  refine value_ (w1 := ?_) (v := ?_) (by rfl) rfl ?_ ?_
  rotate_left 2
  · go_simp
    constructor
    · rfl
    · rfl
  refine hK.out _ _ (HC9.out _ (below_step HBb.out (below_step HB4.out (below_alloc (Below.refl _ _) _)))) (fun hHeld => ?_)
  clear hK K
  refine norm_ (a' := ?_) ?_ ?_
  rotate_left
  · show Act.put _ (some 73) _ = _
    simp only [Act.put, List.setIfInBounds_toArray, List.set_cons_zero, List.set_cons_succ, i64_w, i32_w]
    rfl
  refine one_ (i := 17) (N := some 74) #[true, true, true, true, true, true, true, true, true, true, true, true, true, true, true, true, true, true, false, false, false, false] rfl rfl (one_of HT_.out (by kernel_rfl)) (by decide) (fun K hK => ?_)
  refine Kd.R_append_step kL (w0 := w0) w0.heap.size (by rfl) (.tmp 62) (.tmp 73) 39 36 (.slice none 0 0) 24 rfl Tryd.underlying39 infoI64s rfl (by decide) (by omega) (.slice lA ln lc) g.ls y [.slice A4 y.length c4] (fun _ => True) (fun q => some q ≠ (Value.slice lA ln lc).ownBlock) rfl rfl ?aP (fun _ hk => ⟨trivial, hk⟩) ?aF ?aO ?aB ?aS ?aL ?_
  (case aP => exact ⟨_, rfl, Kd.R_mono (Kd.R_lower (Kd.R_bound HA4.out) HRS3.out.hb.size) (fun q hq e => by have := hq.2.1; have := HLB.out q e; have := HBb.out.size; omega)⟩)
  (case aB => exact (HRS3.out.below HB4.out).hb)
  (case aF => exact fun _ _ => trivial)
  (case aO => have h := (HRS3.out.below HB4.out).rw.l; rw [HLO.out] at h; exact h)
  (case aS => exact below_size (HRS3.out.below HB4.out).hb)
  (case aL => have := HLL.out; omega)
  intro v5 w5 ho hb hg hat
  obtain ⟨A5, c5, rfl, _, _⟩ := Kd.R_reads ho
  have HG := Aside0.mk (And.intro ho (And.intro hb hg))
  clear ho hb hg hat
  have hon5 := (HRS3.out.below HB4.out).looks_only (by rw [HLO.out]; exact HG.out.2.2)
  have hbp5 := hon5 gr _ _ (HRS3.out.below HB4.out).bp (by decide)
  refine hK.out _ _ (HC9b.out w4 w5 (below_step HBb.out HB4.out) hon5 hbp5) (fun hHeld => ?_)
  clear hK K
  refine norm_ (a' := ?_) ?_ ?_
  rotate_left
  · show Act.put _ (some 74) _ = _
    simp only [Act.put, List.setIfInBounds_toArray, List.set_cons_zero, List.set_cons_succ, i64_w, i32_w]
    rfl
  refine pure_ (i := 18) (N := some 75) (v := ?_) (a' := ?_) #[true, true, true, true, true, true, true, true, true, true, true, true, true, true, true, true, true, true, true, false, false, false] rfl rfl (any_of HT_.out (by kernel_rfl)) (fun _ _ _ h => h) (Or.inl ⟨by rfl, ?_⟩) ?_ ?_
  rotate_left
  · intro w'
    go_simp
    with_reducible rfl
  rotate_left
  · simp only [Act.put, List.setIfInBounds_toArray, List.set_cons_zero, List.set_cons_succ, i64_w, i32_w]
    rfl
  refine pure_ (i := 19) (N := some 76) (v := ?_) (a' := ?_) #[true, true, true, true, true, true, true, true, true, true, true, true, true, true, true, true, true, true, true, true, false, false] rfl rfl (any_of HT_.out (by kernel_rfl)) (fun _ _ _ h => h) (Or.inl ⟨by rfl, ?_⟩) ?_ ?_
  rotate_left
  · intro w'
    go_simp
    with_reducible rfl
  rotate_left
  · simp only [Act.put, List.setIfInBounds_toArray, List.set_cons_zero, List.set_cons_succ, i64_w, i32_w]
    rfl
  refine pure_ (i := 20) (N := some 77) (v := ?_) (a' := ?_) #[true, true, true, true, true, true, true, true, true, true, true, true, true, true, true, true, true, true, true, true, true, false] rfl rfl (any_of HT_.out (by kernel_rfl)) (fun _ _ _ h => h) (Or.inl ⟨by rfl, ?_⟩) ?_ ?_
  rotate_left
  · intro w'
    go_simp
    with_reducible rfl
  rotate_left
  · simp only [Act.put, List.setIfInBounds_toArray, List.set_cons_zero, List.set_cons_succ, i64_w, i32_w]
    rfl
  have hfz := blk_frozen hbp5 10
  have hfx : w5.cell? ⟨gr, 10, none⟩ = some (.slice lA ln lc) := (blk_cell hbp5 10).trans (by show some (slv g.lo) = _; rw [HLO.out])
  refine last_ (i := 21) (N := none) #[true, true, true, true, true, true, true, true, true, true, true, true, true, true, true, true, true, true, true, true, true, true] rfl rfl (one_of HT_.out (by kernel_rfl)) (by decide) (fun K hK => ?_)
  refine skip_ (w1 := ?_) (by rfl) rfl ?_ ?_
  rotate_left
  · go_simp
    rfl
  refine hK.out _ _ ?_
  clear hK K
  refine done_ (done_of HT_.out (by kernel_rfl)) ?_
  clear HT_ HW_ hHeld

  have hl5 : (g.ls ++ [y]).length = g.ls.length + 1 := by simp
  have hv := (HRS3.out.below HB4.out).looked (t1 := (A5, (g.ls ++ [y]).length, c5)) HG.out.1 HG.out.2.1 (by rw [HLO.out]; exact HG.out.2.2)
  rw [hl5] at hv
  replace hv : RS w0 (w5.setCell ⟨gr, 10, none⟩ (.slice A5 (g.ls.length + 1) c5)) gr { g with lo := (A5, g.ls.length + 1, c5), ls := g.ls ++ [y] } := hv
  have HV := Aside0.mk hv
  clear hv hl5 hfz hfx hon5 hbp5
  go_wp2
  go_end0
  refine ⟨rfl, HI.out _ ⟨_, HV.out, ⟨HRep.out.op, HRep.out.un, HRep.out.pl, HRep.out.vs, ?_, HRep.out.ts, HRep.out.ps, HRep.out.nx, HRep.out.ms⟩, HSp.out.1, HSp.out.2⟩⟩
  show g.ls ++ [y] = s.looks ++ [s.views.getD s.hand red.fresh]
  rw [HRep.out.ls, HH.out.1, ← HH.out.2.2]
  rfl
def R40c : Bool × List (List Nat × List Nat) := (true, [([], []), ([], []), ([1], [1]), ([2], [2]), ([3], [3]), ([], []), ([5], [5]), ([6], [6]), ([7], [7]), ([], []), ([9], [9]), ([8, 10], [8, 10]), ([11], [11]), ([4, 12], [4, 12]), ([0, 0, 1, 2, 3, 4, 5, 6, 7, 8, 9, 10, 11, 12, 13], [0]), ([14, 0, 1, 2, 3, 4, 5, 6, 7, 8, 9, 10, 11, 12, 13], [14]), ([15, 13, 13, 0, 1, 2, 3, 4, 5, 6, 7, 8, 9, 10, 11, 12, 13], [13, 15])])
def R40cB : List Nat := [0, 0, 2, 6, 14, 0, 32, 96, 224, 0, 512, 2016, 4064, 8190, 16383, 32767, 65535]
theorem R40c_tab : rtab .any (opsOf Tryd.f49 11) = R40c := by kernel_rfl
theorem R40c_bits : waitsOk R40c.2 R40cB = true := by kernel_rfl

set_option maxHeartbeats 8000000 in
set_option maxRecDepth 100000 in
theorem deed_spawn {w0 w : World} {gr : Nat} {F : List Int → Int} {op un : Int} {ps : List Int} {s : St (List Int)} {L : List Int} {n : Nat} (h : RT w0 w gr F op un ps s) (hB : Bd n s L) (hn : n ≤ 100000) (x at_ : Int) (sl : Value) :
    Calls Tryd.prog 49 #[.pointer (some ⟨gr, 0, none⟩), .int .i64 at_, .agg #[.int .i64 0, .int .i64 x], sl] w fun e w' => e = .returned (.tuple #[]) ∧ RT w0 w' gr F op un ps s.spawn := by
  obtain ⟨g, hrs, hrep, hsn, hsp⟩ := h
  obtain ⟨Pst, hI, hE⟩ : ∃ Pst : World → Prop, (∀ w', RT w0 w' gr F op un ps s.spawn → Pst w') ∧ (∀ w', Pst w' → RT w0 w' gr F op un ps s.spawn) := ⟨_, fun _ h => h, fun _ h => h⟩
  have HI := Aside0.mk hI
  refine Calls.mono (?_ : Calls Tryd.prog 49 #[.pointer (some ⟨gr, 0, none⟩), .int .i64 at_, .agg #[.int .i64 0, .int .i64 x], sl] w fun e w' => e = .returned (.tuple #[]) ∧ Pst w') (fun e w' ⟨h1, h2⟩ => ⟨h1, hE w' h2⟩)
  clear hI hE
  have hhl := hB.cur.2.2.1
  obtain ⟨hd, hhd⟩ : ∃ hd, s.hand = hd := ⟨_, rfl⟩
  have hvl := hrep.views_len
  obtain ⟨y, hy⟩ : ∃ y, s.views.getD hd [] = y := ⟨_, rfl⟩
  have hyl : y.length ≤ n := by
    have := hB.cur
    rw [← hy, ← hhd]
    exact this.2.2.2.1 _ this.2.2.1 this.2.2.2.2
  have hd2 : (hd : Int) ≤ 4194304 := by have := hB.views; omega
  have hsc : s.count ≤ 100000 := by have := hB.count; omega
  have hsc2 : (g.sn : Int) ≤ 100000 := by rw [hsn]; omega
  have HSC := Aside0.mk hsc
  clear hsc
  obtain ⟨b, hb⟩ : ∃ b, w.heap.size = b := ⟨_, rfl⟩
  have HW1 := Aside0.mk (below_alloc (Below.refl w.heap.size w) (.cells #[.int .i64 0, .int .i64 x] 46))
  have HBk := Aside0.mk (show (w.alloc (.cells #[.int .i64 0, .int .i64 x] 46)).heap[b]? = some (.cells #[.int .i64 0, .int .i64 x] 46 (0, 0)) from hb ▸ heap_alloc_new _ _)
  have HRS := Aside0.mk hrs
  have HRep := Aside0.mk hrep
  have HB := Aside0.mk hB
  have HN := Aside0.mk hn
  have HH := Aside0.mk (And.intro hhd (And.intro hhl hy))
  have HYL := Aside0.mk hyl
  have HSp := Aside0.mk (And.intro hsn hsp)
  have HVL := Aside0.mk hvl
  have HOp := Aside0.mk hrep.op
  clear hrs hrep hB hn hhl hy hsn hsp hyl
  go_enter Tryd.func49, Tryd.ntmps49
  go_wp2_with fail
  refine (hand_at (HRS.out.below HW1.out) HRep.out HB.out HN.out).mono ?_
  rintro e w2 ⟨rfl, hdr⟩
  rw [HH.out.1]
  have HRS2 := Aside0.mk ((HRS.out.below HW1.out).below hdr.below)
  have HBk2 := Aside0.mk (blk_below HBk.out hdr.below)
  clear hdr HRS HW1 HBk hhd hvl
  have HHb := Aside0.mk hb
  have xk : w2.cell? ⟨b, 0, none⟩ = some (.int .i64 0) := (blk_cell HBk2.out 0).trans rfl
  obtain ⟨⟨kA, kn, kc⟩, htk⟩ : ∃ t : Sl, g.tk = t := ⟨_, rfl⟩
  have HTK := Aside0.mk (show slv g.tk = .slice kA kn kc by rw [htk]; rfl)
  have HTL := Aside0.mk (show g.ts.length ≤ 200000 by rw [HRep.out.tasks_len]; have := HB.out.up; have := HN.out; omega)
  have HKB := Aside0.mk (show ∀ q, some q = (Value.slice kA kn kc).ownBlock → q < w2.heap.size from fun q hq => by
    obtain ⟨cells, hc⟩ := typed_of HRS2.out.rw.t q (by rw [HTK.out]; exact hq.symm)
    exact blk_lt hc)
  have HC11 := Aside0.mk (show ∀ w', RS w0 w' gr g → w'.cell? ⟨gr, 3, none⟩ = some (.slice kA kn kc) ∧ w'.cell? ⟨gr, 6, none⟩ = some (.int .i64 (g.sn : Int)) from fun w' h => ⟨by rw [h.cell.2.2.2.1, HTK.out], h.cell.2.2.2.2.2.2.1⟩)
  clear htk hb
  go_upto_region 11 with fail
  clear xk
  refine start_ (n := 17) (S := (fun w' => w'.cell? ⟨gr, 3, none⟩ = some (.slice kA kn kc) ∧ w'.cell? ⟨gr, 6, none⟩ = some (.int .i64 (g.sn : Int)))) (ds := [16]) #[false, false, false, false, false, false, false, false, false, false, false, false, false, false, false, false, false] (by kernel_rfl) rfl rfl (HC11.out w2 HRS2.out) (fun hHeld => ?_); refine with_tabW R40c_tab R40c_bits (fun HT_ HW_ => ?_)
  have HBb := Aside0.mk (show Below w2.heap.size w2 w2.drew from Drawn0.below ⟨⟨1, rfl⟩⟩)
  generalize w2.drew = w3 at HBb hHeld ⊢
  have HRS3 := Aside0.mk (HRS2.out.below HBb.out)
  refine pure_ (i := 0) (N := some 80) (v := ?_) (a' := ?_) #[true, false, false, false, false, false, false, false, false, false, false, false, false, false, false, false, false] rfl rfl (any_of HT_.out (by kernel_rfl)) (fun _ _ _ h => h) (Or.inl ⟨by rfl, ?_⟩) ?_ ?_
  rotate_left
  · intro w'
    go_simp
    with_reducible rfl
  rotate_left
  · simp only [Act.put, List.setIfInBounds_toArray, List.set_cons_zero, List.set_cons_succ, i64_w, i32_w]
    rfl
  refine pure_ (i := 1) (N := some 81) (v := ?_) (a' := ?_) #[true, true, false, false, false, false, false, false, false, false, false, false, false, false, false, false, false] rfl rfl (any_of HT_.out (by kernel_rfl)) (fun _ _ _ h => h) (Or.inl ⟨by rfl, ?_⟩) ?_ ?_
  rotate_left
  · intro w'
    go_simp
    with_reducible rfl
  rotate_left
  · simp only [Act.put, List.setIfInBounds_toArray, List.set_cons_zero, List.set_cons_succ, i64_w, i32_w]
    rfl
  refine pure_ (i := 2) (N := some 82) (v := ?_) (a' := ?_) #[true, true, true, false, false, false, false, false, false, false, false, false, false, false, false, false, false] rfl rfl (any_of HT_.out (by kernel_rfl)) (fun _ _ _ h => h) (Or.inl ⟨by rfl, ?_⟩) ?_ ?_
  rotate_left
  · intro w'
    go_simp
    with_reducible rfl
  rotate_left
  · simp only [Act.put, List.setIfInBounds_toArray, List.set_cons_zero, List.set_cons_succ, i64_w, i32_w]
    rfl
  refine pure_ (i := 3) (N := some 83) (v := ?_) (a' := ?_) #[true, true, true, true, false, false, false, false, false, false, false, false, false, false, false, false, false] rfl rfl (any_of HT_.out (by kernel_rfl)) (fun _ _ _ h => h) (Or.inl ⟨by rfl, ?_⟩) ?_ ?_
  rotate_left
  · intro w'
    go_simp
    with_reducible rfl
  rotate_left
  · simp only [Act.put, List.setIfInBounds_toArray, List.set_cons_zero, List.set_cons_succ, i64_w, i32_w]
    rfl
  refine take_ (i := 4) (N := some 84) (v := ?_) (a' := ?_) #[true, true, true, true, true, false, false, false, false, false, false, false, false, false, false, false, false] rfl rfl (take_ofW HT_.out HW_.out (by kernel_rfl)) (fun _ _ _ h => h) (Or.inl ⟨by rfl, ?_⟩) hHeld ?_ ?_
  rotate_left
  · rintro w' ⟨s0, s1⟩
    go_simp
    with_reducible rfl
  rotate_left
  · simp only [Act.put, List.setIfInBounds_toArray, List.set_cons_zero, List.set_cons_succ, i64_w, i32_w]
    rfl
  refine pure_ (i := 5) (N := some 85) (v := ?_) (a' := ?_) #[true, true, true, true, true, true, false, false, false, false, false, false, false, false, false, false, false] rfl rfl (any_of HT_.out (by kernel_rfl)) (fun _ _ _ h => h) (Or.inl ⟨by rfl, ?_⟩) ?_ ?_
  rotate_left
  · intro w'
    go_simp
    with_reducible rfl
  rotate_left
  · simp only [Act.put, List.setIfInBounds_toArray, List.set_cons_zero, List.set_cons_succ, i64_w, i32_w]
    rfl
  refine pure_ (i := 6) (N := some 86) (v := ?_) (a' := ?_) #[true, true, true, true, true, true, true, false, false, false, false, false, false, false, false, false, false] rfl rfl (any_of HT_.out (by kernel_rfl)) (fun _ _ _ h => h) (Or.inl ⟨by rfl, ?_⟩) ?_ ?_
  rotate_left
  · intro w'
    go_simp
    with_reducible rfl
  rotate_left
  · simp only [Act.put, List.setIfInBounds_toArray, List.set_cons_zero, List.set_cons_succ, i64_w, i32_w]
    rfl
  refine pure_ (i := 7) (N := some 87) (v := ?_) (a' := ?_) #[true, true, true, true, true, true, true, true, false, false, false, false, false, false, false, false, false] rfl rfl (any_of HT_.out (by kernel_rfl)) (fun _ _ _ h => h) (Or.inl ⟨by rfl, ?_⟩) ?_ ?_
  rotate_left
  · intro w'
    go_simp
    with_reducible rfl
  rotate_left
  · simp only [Act.put, List.setIfInBounds_toArray, List.set_cons_zero, List.set_cons_succ, i64_w, i32_w]
    rfl
  refine take_ (i := 8) (N := some 88) (v := ?_) (a' := ?_) #[true, true, true, true, true, true, true, true, true, false, false, false, false, false, false, false, false] rfl rfl (take_ofW HT_.out HW_.out (by kernel_rfl)) (fun _ _ _ h => h) (Or.inl ⟨by rfl, ?_⟩) hHeld ?_ ?_
  rotate_left
  · rintro w' ⟨s0, s1⟩
    go_simp
    with_reducible rfl
  rotate_left
  · simp only [Act.put, List.setIfInBounds_toArray, List.set_cons_zero, List.set_cons_succ, i64_w, i32_w]
    rfl
  refine pure_ (i := 9) (N := some 89) (v := ?_) (a' := ?_) #[true, true, true, true, true, true, true, true, true, true, false, false, false, false, false, false, false] rfl rfl (any_of HT_.out (by kernel_rfl)) (fun _ _ _ h => h) (Or.inl ⟨by rfl, ?_⟩) ?_ ?_
  rotate_left
  · intro w'
    go_simp
    with_reducible rfl
  rotate_left
  · simp only [Act.put, List.setIfInBounds_toArray, List.set_cons_zero, List.set_cons_succ, i64_w, i32_w]
    rfl
  refine one_ (i := 10) (N := some 90) #[true, true, true, true, true, true, true, true, true, true, true, false, false, false, false, false, false] rfl rfl (one_of HT_.out (by kernel_rfl)) (by decide) (fun K hK => ?_)
  refine value_ (w1 := ?_) (v := ?_) (by rfl) rfl ?_ ?_
  rotate_left 2
  · go_simp
    constructor
    · rfl
    · rfl
  refine hK.out _ _ (HC11.out _ (HRS3.out.below (below_alloc (Below.refl _ _) _))) (fun hHeld => ?_)
  clear hK K
  refine norm_ (a' := ?_) ?_ ?_
  rotate_left
  · show Act.put _ (some 90) _ = _
    simp only [Act.put, List.setIfInBounds_toArray, List.set_cons_zero, List.set_cons_succ, i64_w, i32_w]
    rfl
  refine pure_ (i := 11) (N := some 91) (v := ?_) (a' := ?_) #[true, true, true, true, true, true, true, true, true, true, true, true, false, false, false, false, false] rfl rfl (any_of HT_.out (by kernel_rfl)) (fun _ _ _ h => h) (Or.inl ⟨by rfl, ?_⟩) ?_ ?_
  rotate_left
  · intro w'
    go_simp
    with_reducible rfl
  rotate_left
  · simp only [Act.put, List.setIfInBounds_toArray, List.set_cons_zero, List.set_cons_succ, i64_w, i32_w]
    rfl
  have HA3 := Aside0.mk (show (Kd.int .i64).R 3 (w3.alloc (.cells #[.int .i64 (hd : Int)] 3)) w3.heap.size (fun _ => True) (.slice (some ⟨w3.heap.size, 0, none⟩) 1 1) [(hd : Int)] from R_lit1 (enc := Value.int .i64) (h1 := fun _ => rfl) _ _ _)
  have HRS4 := Aside0.mk (HRS3.out.below (below_alloc (Below.refl _ _) (.cells #[.int .i64 (hd : Int)] 3)))
  generalize w3.alloc (.cells #[.int .i64 (hd : Int)] 3) = w4 at HA3 HRS4 hHeld ⊢
  refine one_ (i := 12) (N := some 92) #[true, true, true, true, true, true, true, true, true, true, true, true, true, false, false, false, false] rfl rfl (one_of HT_.out (by kernel_rfl)) (by decide) (fun K hK => ?_)
  refine value_ (w1 := ?_) (v := ?_) (by rfl) rfl ?_ ?_
  rotate_left 2
  · go_simp
    constructor
    · rfl
    · rfl
  refine hK.out _ _ (HC11.out _ (HRS4.out.below (below_alloc (Below.refl _ _) _))) (fun hHeld => ?_)
  clear hK K
  refine norm_ (a' := ?_) ?_ ?_
  rotate_left
  · show Act.put _ (some 92) _ = _
    simp only [Act.put, List.setIfInBounds_toArray, List.set_cons_zero, List.set_cons_succ, i64_w, i32_w]
    rfl
  refine one_ (i := 13) (N := some 93) #[true, true, true, true, true, true, true, true, true, true, true, true, true, true, false, false, false] rfl rfl (one_of HT_.out (by kernel_rfl)) (by decide) (fun K hK => ?_)
  refine Kd.R_append_step k96 (w0 := w0) w0.heap.size (by rfl) (.tmp 84) (.tmp 92) 68 96 (.agg #[.int .i64 0, .slice none 0 0]) 32 rfl Tryd.underlying68 infoTask rfl (by decide) (by omega) (.slice kA kn kc) g.ts ⟨(g.sn : Int), [(hd : Int)]⟩ [.int .i64 (g.sn : Int), .slice (some ⟨w3.heap.size, 0, none⟩) 1 1] (fun _ => True) (fun q => some q ≠ (Value.slice kA kn kc).ownBlock) rfl rfl ?aP (fun _ hk => ⟨trivial, hk⟩) ?aF ?aO ?aB ?aS ?aL ?_
  (case aP => exact k96_mkM _ _ _ ⟨(g.sn : Int), [(hd : Int)]⟩ (Kd.R_mono (Kd.R_lower (Kd.R_bound HA3.out) HRS3.out.hb.size) (fun q hq e => by have := hq.2.1; have := HKB.out q e; have := HBb.out.size; omega)))
  (case aB => exact HRS4.out.hb)
  (case aF => exact fun _ _ => trivial)
  (case aO => have h := HRS4.out.rw.t; rw [HTK.out] at h; exact h)
  (case aS => exact below_size HRS4.out.hb)
  (case aL => have := HTL.out; omega)
  intro v5 w5 ho hb hg hat
  obtain ⟨A5, c5, rfl, _, _⟩ := Kd.R_reads ho
  have HG := Aside0.mk (And.intro ho (And.intro hb hg))
  clear ho hb hg hat
  have hon5 := HRS4.out.tasks_only (by rw [HTK.out]; exact HG.out.2.2)
  have hbp5 := hon5 gr _ _ HRS4.out.bp (by decide)
  refine hK.out _ _ ⟨(blk_cell hbp5 3).trans (by show some (slv g.tk) = _; rw [HTK.out]), (blk_cell hbp5 6).trans rfl⟩ (fun hHeld => ?_)
  clear hK K
  refine norm_ (a' := ?_) ?_ ?_
  rotate_left
  · show Act.put _ (some 93) _ = _
    simp only [Act.put, List.setIfInBounds_toArray, List.set_cons_zero, List.set_cons_succ, i64_w, i32_w]
    rfl
  refine pure_ (i := 14) (N := some 94) (v := ?_) (a' := ?_) #[true, true, true, true, true, true, true, true, true, true, true, true, true, true, true, false, false] rfl rfl (any_of HT_.out (by kernel_rfl)) (fun _ _ _ h => h) (Or.inl ⟨by rfl, ?_⟩) ?_ ?_
  rotate_left
  · intro w'
    go_simp
    with_reducible rfl
  rotate_left
  · simp only [Act.put, List.setIfInBounds_toArray, List.set_cons_zero, List.set_cons_succ, i64_w, i32_w]
    rfl
  refine pure_ (i := 15) (N := some 95) (v := ?_) (a' := ?_) #[true, true, true, true, true, true, true, true, true, true, true, true, true, true, true, true, false] rfl rfl (any_of HT_.out (by kernel_rfl)) (fun _ _ _ h => h) (Or.inl ⟨by rfl, ?_⟩) ?_ ?_
  rotate_left
  · intro w'
    go_simp
    with_reducible rfl
  rotate_left
  · simp only [Act.put, List.setIfInBounds_toArray, List.set_cons_zero, List.set_cons_succ, i64_w, i32_w]
    rfl
  have hfz := blk_frozen hbp5 3
  have hfx : w5.cell? ⟨gr, 3, none⟩ = some (.slice kA kn kc) := (blk_cell hbp5 3).trans (by show some (slv g.tk) = _; rw [HTK.out])
  refine last_ (i := 16) (N := none) #[true, true, true, true, true, true, true, true, true, true, true, true, true, true, true, true, true] rfl rfl (one_of HT_.out (by kernel_rfl)) (by decide) (fun K hK => ?_)
  refine skip_ (w1 := ?_) (by rfl) rfl ?_ ?_
  rotate_left
  · go_simp
    rfl
  refine hK.out _ _ ?_
  clear hK K
  refine done_ (done_of HT_.out (by kernel_rfl)) ?_
  clear HT_ HW_ hHeld

  have hl5 : (g.ts ++ [(⟨(g.sn : Int), [(hd : Int)]⟩ : S96)]).length = g.ts.length + 1 := by simp
  have hv := HRS4.out.task_made (t1 := (A5, (g.ts ++ [(⟨(g.sn : Int), [(hd : Int)]⟩ : S96)]).length, c5)) HG.out.1 HG.out.2.1 (by rw [HTK.out]; exact HG.out.2.2)
  rw [hl5] at hv
  replace hv : RS w0 (w5.setCell ⟨gr, 3, none⟩ (.slice A5 (g.ts.length + 1) c5)) gr { g with tk := (A5, g.ts.length + 1, c5), ts := g.ts ++ [⟨(g.sn : Int), [(hd : Int)]⟩] } := hv
  have HV := Aside0.mk hv
  generalize w5.setCell ⟨gr, 3, none⟩ (.slice A5 (g.ts.length + 1) c5) = w6 at HV ⊢
  clear hv hl5 hfz hfx hon5 hbp5
  have x6 : w6.cell? ⟨gr, 6, none⟩ = some (.int .i64 (g.sn : Int)) := HV.out.cell.2.2.2.2.2.2.1
  have f6 := blk_frozen HV.out.bp 6
  obtain ⟨W7, hW7⟩ : ∃ W7, w6.setCell ⟨gr, 6, none⟩ (.int .i64 ((g.sn : Int) + 1)) = W7 := ⟨_, rfl⟩
  have HV7 := Aside0.mk (show RS w0 W7 gr { g with tk := (A5, g.ts.length + 1, c5), ts := g.ts ++ [⟨(g.sn : Int), [(hd : Int)]⟩], sn := g.sn + 1 } from by
    rw [← hW7]
    refine HV.out.num 6 _ _ ?_ ⟨HV.out.rw.v, HV.out.rw.t, HV.out.rw.m, HV.out.rw.l⟩ ⟨rfl, rfl⟩
    simp [cells])
  go_wp2
  go_end0
  refine ⟨rfl, HI.out _ ⟨_, HV7.out, ⟨HRep.out.op, HRep.out.un, HRep.out.pl, HRep.out.vs, HRep.out.ls, ?_, HRep.out.ps, HRep.out.nx, HRep.out.ms⟩, ?_, ?_⟩⟩
  · show (g.ts ++ [(⟨(g.sn : Int), [(hd : Int)]⟩ : S96)]).map (fun t : S96 => t.f1) = (s.cur :: s.up).reverse.map ints ++ [ints [s.hand]]
    rw [List.map_append, HRep.out.ts, HH.out.1]
    simp [ints]
  · show g.sn + 1 = s.count + 1
    rw [HSp.out.1]
  · show (g.ts ++ [(⟨(g.sn : Int), [(hd : Int)]⟩ : S96)]).map (fun t : S96 => t.f0) = (-1) :: ints (s.count :: s.spawns).reverse
    rw [List.map_append, HSp.out.2, HSp.out.1]
    simp [ints]

set_option maxHeartbeats 8000000 in
set_option maxRecDepth 100000 in
theorem deed_sync {w0 w : World} {gr : Nat} {F : List Int → Int} {op un : Int} {ps : List Int} {s : St (List Int)} {L : List Int} {n : Nat} (h : RT w0 w gr F op un ps s) (hB : Bd n s L) (hn : n ≤ 100000) (t : Nat) {X : Int → Prop} (hAp : JoinOk w0 gr op F X) (hX : ∀ y, y ∈ L → X y) (hps : ps.length ≤ 1048576) (x : Int) (sl : Value) :
    Calls Tryd.prog 49 #[.pointer (some ⟨gr, 0, none⟩), .int .i64 (t : Int), .agg #[.int .i64 2, .int .i64 x], sl] w fun e w' => e = .returned (.tuple #[]) ∧ RT w0 w' gr F op un ps (s.merge red t) := by
  obtain ⟨g, hrs, hrep, hsn, hsp⟩ := h
  obtain ⟨Pst, hI, hE⟩ : ∃ Pst : World → Prop, (∀ w', RT w0 w' gr F op un ps (s.merge red t) → Pst w') ∧ (∀ w', Pst w' → RT w0 w' gr F op un ps (s.merge red t)) := ⟨_, fun _ h => h, fun _ h => h⟩
  have HI := Aside0.mk hI
  refine Calls.mono (?_ : Calls Tryd.prog 49 #[.pointer (some ⟨gr, 0, none⟩), .int .i64 (t : Int), .agg #[.int .i64 2, .int .i64 x], sl] w fun e w' => e = .returned (.tuple #[]) ∧ Pst w') (fun e w' ⟨h1, h2⟩ => ⟨h1, hE w' h2⟩)
  clear hI hE
  have hhl := hB.cur.2.2.1
  obtain ⟨hd, hhd⟩ : ∃ hd, s.hand = hd := ⟨_, rfl⟩
  have hvl := hrep.views_len
  obtain ⟨y, hy⟩ : ∃ y, s.views.getD hd [] = y := ⟨_, rfl⟩
  have hyl : y.length ≤ n := by
    have := hB.cur
    rw [← hy, ← hhd]
    exact this.2.2.2.1 _ this.2.2.1 this.2.2.2.2
  have hd2 : (hd : Int) ≤ 4194304 := by have := hB.views; omega
  have HAp := Aside0.mk hAp
  have HX := Aside0.mk hX
  have HPs := Aside0.mk hps
  clear hAp hX hps
  obtain ⟨b, hb⟩ : ∃ b, w.heap.size = b := ⟨_, rfl⟩
  have HW1 := Aside0.mk (below_alloc (Below.refl w.heap.size w) (.cells #[.int .i64 2, .int .i64 x] 46))
  have HBk := Aside0.mk (show (w.alloc (.cells #[.int .i64 2, .int .i64 x] 46)).heap[b]? = some (.cells #[.int .i64 2, .int .i64 x] 46 (0, 0)) from hb ▸ heap_alloc_new _ _)
  have HRS := Aside0.mk hrs
  have HRep := Aside0.mk hrep
  have HB := Aside0.mk hB
  have HN := Aside0.mk hn
  have HH := Aside0.mk (And.intro hhd (And.intro hhl hy))
  have HYL := Aside0.mk hyl
  have HSp := Aside0.mk (And.intro hsn hsp)
  have HVL := Aside0.mk hvl
  have HOp := Aside0.mk hrep.op
  clear hrs hrep hB hn hhl hy hsn hsp hyl
  go_enter Tryd.func49, Tryd.ntmps49
  go_wp2_with fail
  refine (hand_at (HRS.out.below HW1.out) HRep.out HB.out HN.out).mono ?_
  rintro e w2 ⟨rfl, hdr⟩
  rw [HH.out.1]
  have HRS2 := Aside0.mk ((HRS.out.below HW1.out).below hdr.below)
  have HBk2 := Aside0.mk (blk_below HBk.out hdr.below)
  clear hdr HRS HW1 HBk hhd hvl
  have HHb := Aside0.mk hb
  have xk : w2.cell? ⟨b, 0, none⟩ = some (.int .i64 2) := (blk_cell HBk2.out 0).trans rfl
  clear hb
  go_wp2_with fail
  obtain ⟨pre, hmi, _⟩ := HB.out.inv.mi
  obtain ⟨hne, hl, _⟩ := HB.out.cur
  refine (merge_calls HRS2.out HRep.out t hmi HAp.out HX.out (by have := HB.out.len; have := HN.out; omega) (by have := HB.out.views; have := HN.out; omega) (by have := HN.out; omega) (by have := HB.out.up; have := HN.out; omega) HPs.out).mono ?_
  rintro e w3 ⟨rfl, g3, hrs3, hrep3, hsn3, hts3⟩
  have H3 := Aside0.mk (And.intro hrs3 (And.intro hrep3 (And.intro hsn3 hts3)))
  clear hrs3 hrep3 hsn3 hts3 hmi hne hl xk
  go_wp2
  go_end0
  exact ⟨rfl, HI.out _ ⟨g3, H3.out.1, H3.out.2.1, by rw [H3.out.2.2.1]; exact HSp.out.1, by rw [H3.out.2.2.2]; exact HSp.out.2⟩⟩
end Go.Proofs.YtamfkglnejhjdaaDoor.Ref
