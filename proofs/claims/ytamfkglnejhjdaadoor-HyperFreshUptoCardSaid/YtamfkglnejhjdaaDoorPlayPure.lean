/- What a play on a reducer is: rows of views, moved deed by deed: plain lists. -/
namespace Go.Proofs.YtamfkglnejhjdaaDoor.Play

structure Red (V : Type) where
 fresh : V
 put : V → Int → V
 join : V → V → V
abbrev Mg := Nat × Nat × Nat
def pickOf (ps : List Int) (n : Nat) : Nat := ((ps.headD 0) % (n : Int)).toNat
theorem pick_lt (ps : List Int) (n : Nat) : pickOf ps (n + 1) < n + 1 := by
 unfold pickOf
 have h1 := Int.emod_nonneg (ps.headD 0) (b := ((n + 1 : Nat) : Int)) (by omega)
 have h2 := Int.emod_lt_of_pos (ps.headD 0) (b := ((n + 1 : Nat) : Int)) (by omega)
 omega
section
variable {V : Type}
def mergeGo (R : Red V) (t : Nat) : Nat → List Nat → List V → List Int → List Mg → List Nat × List V × List Int × List Mg
 | 0, row, vs, ps, ms => (row, vs, ps, ms)
 | n + 1, row, vs, ps, ms =>
  mergeGo R t n (row.eraseIdx (pickOf ps (n + 1) + 1))
   (vs.set (row.getD (pickOf ps (n + 1)) 0) (R.join (vs.getD (row.getD (pickOf ps (n + 1)) 0) R.fresh) (vs.getD (row.getD (pickOf ps (n + 1) + 1) 0) R.fresh)))
   ps.tail (ms ++ [(t, row.getD (pickOf ps (n + 1)) 0, row.getD (pickOf ps (n + 1) + 1) 0)])
structure St (V : Type) where
 cur : List Nat
 up : List (List Nat)
 spawns : List Nat
 count : Nat
 views : List V
 picks : List Int
 merges : List Mg
 looks : List V
def St.merge (R : Red V) (t : Nat) (s : St V) : St V :=
 { s with
  cur := (mergeGo R t (s.cur.length - 1) s.cur s.views s.picks s.merges).1
  views := (mergeGo R t (s.cur.length - 1) s.cur s.views s.picks s.merges).2.1
  picks := (mergeGo R t (s.cur.length - 1) s.cur s.views s.picks s.merges).2.2.1
  merges := (mergeGo R t (s.cur.length - 1) s.cur s.views s.picks s.merges).2.2.2 }
def St.hand (s : St V) : Nat := s.cur.getLastD 0
def St.write (R : Red V) (x : Int) (s : St V) : St V := { s with views := s.views.set s.hand (R.put (s.views.getD s.hand R.fresh) x) }
def St.read (R : Red V) (s : St V) : St V := { s with looks := s.looks ++ [s.views.getD s.hand R.fresh] }
def St.spawn (s : St V) : St V := { s with cur := [s.hand], up := s.cur :: s.up, spawns := s.count :: s.spawns, count := s.count + 1 }
def St.leave (s : St V) : St V := { s with cur := s.up.headD [], up := s.up.tail }
def St.made (R : Red V) (s : St V) : St V := { s with cur := s.cur ++ [s.views.length], views := s.views ++ [R.fresh] }
def St.back (R : Red V) (stolen : List Bool) (s : St V) : St V :=
 if stolen.getD (s.spawns.headD 0) false = true then St.made R { s.leave with spawns := s.spawns.tail } else { s.leave with spawns := s.spawns.tail }
def step (R : Red V) (stolen : List Bool) (t : Nat) (d : Int × Int) (s : St V) : St V :=
 if d.1 = 4 then s.write R d.2 else if d.1 = 3 then s.read R else if d.1 = 0 then s.spawn else if d.1 = 2 then s.merge R t else if d.1 = 1 then (s.merge R t).back R stolen else s
def run (R : Red V) (stolen : List Bool) : Nat → List (Int × Int) → St V → St V
 | _, [], s => s
 | t, d :: ds, s => run R stolen (t + 1) ds (step R stolen t d s)
def finish (R : Red V) (t : Nat) : Nat → St V → St V
 | 0, s => s.merge R t
 | n + 1, s => finish R t n (s.merge R t).leave
def start (R : Red V) (ps : List Int) : St V := { cur := [0], up := [], spawns := [], count := 0, views := [R.fresh], picks := ps, merges := [], looks := [] }
def play (R : Red V) (stolen : List Bool) (ps : List Int) (ds : List (Int × Int)) : St V :=
 finish R ds.length (run R stolen 0 ds (start R ps)).up.length (run R stolen 0 ds (start R ps))
end

def right : Nat → List (Int × Int) → Bool
 | _, [] => true
 | n, d :: ds => if d.1 = 0 then right (n + 1) ds else if d.1 = 1 then (match n with | 0 => false | m + 1 => right m ds) else if d.1 = 2 ∨ d.1 = 3 ∨ d.1 = 4 then right n ds else false
def puts (ds : List (Int × Int)) : List Int := (ds.filter (fun d => d.1 = 4)).map (·.2)
theorem puts_append (a b : List (Int × Int)) : puts (a ++ b) = puts a ++ puts b := by unfold puts; rw [List.filter_append, List.map_append]

def live (cur : List Nat) : List (List Nat) → List Nat
 | [] => cur
 | r :: up => live r up ++ cur.tail
def linked (cur : List Nat) : List (List Nat) → Prop
 | [] => cur ≠ []
 | r :: up => cur ≠ [] ∧ cur.head? = r.getLast? ∧ linked r up
theorem linked_ne {cur : List Nat} : ∀ {up : List (List Nat)}, linked cur up → cur ≠ []
 | [], h => h
 | _ :: _, h => h.1
theorem getLast?_append_of_ne {α : Type} (a b : List α) (h : b ≠ []) : (a ++ b).getLast? = b.getLast? := by
 rw [List.getLast?_append]
 cases hb : b.getLast? with
 | none => exact absurd (List.getLast?_eq_none_iff.1 hb) h
 | some x => rfl
theorem live_last {cur : List Nat} : ∀ {up : List (List Nat)}, linked cur up → (live cur up).getLast? = cur.getLast? := by
 intro up
 induction up generalizing cur with
 | nil => intro h; rfl
 | cons r up ih =>
  intro h
  obtain ⟨hne, hh, hl⟩ := h
  simp only [live]
  match cur, hne, hh with
  | [x], _, hh =>
   simp only [List.tail_cons, List.append_nil]
   rw [ih hl, ← hh]; rfl
  | x :: y :: c, _, _ =>
   rw [List.tail_cons, getLast?_append_of_ne _ _ (by simp), List.getLast?_cons_cons]
theorem live_pre {cur : List Nat} {up : List (List Nat)} (h : linked cur up) : ∃ pre, ∀ c : List Nat, c.head? = cur.head? → live c up = pre ++ c ∧ linked c up := by
 cases up with
 | nil =>
  refine ⟨[], fun c hc => ⟨rfl, ?_⟩⟩
  intro e
  subst e
  match cur, h with
  | x :: _, _ => simp at hc
 | cons r up =>
  obtain ⟨hne, hh, hl⟩ := h
  refine ⟨(live r up).dropLast, fun c hc => ?_⟩
  have hlast := live_last hl
  match cur, hne, hh, hc with
  | x :: _, _, hh, hc =>
   match c, hc with
   | y :: c, hc =>
    simp only [List.head?_cons, Option.some.injEq] at hc
    subst hc
    refine ⟨?_, by simp, hh, hl⟩
    simp only [live, List.tail_cons]
    rw [← hh, List.head?_cons] at hlast
    have hne : live r up ≠ [] := by intro e; rw [e] at hlast; simp at hlast
    have e1 : live r up = (live r up).dropLast ++ [y] := by
     rw [List.getLast?_eq_some_getLast hne] at hlast
     injection hlast with hlast
     rw [← hlast, List.dropLast_concat_getLast]
    conv => lhs; rw [e1]
    rw [List.append_assoc]; rfl

def red : Red (List Int) := ⟨[], fun v x => v ++ [x], fun a b => a ++ b⟩
def flat (vs : List (List Int)) (l : List Nat) : List Int := (l.map (fun i => vs.getD i [])).flatten
theorem flat_append (vs : List (List Int)) (a b : List Nat) : flat vs (a ++ b) = flat vs a ++ flat vs b := by unfold flat; simp
theorem flat_cons (vs : List (List Int)) (a : Nat) (b : List Nat) : flat vs (a :: b) = vs.getD a [] ++ flat vs b := by unfold flat; simp
theorem flat_nil (vs : List (List Int)) : flat vs [] = [] := rfl
theorem flat_same {vs ws : List (List Int)} {l : List Nat} (h : ∀ i, i ∈ l → vs.getD i [] = ws.getD i []) : flat vs l = flat ws l := by
 unfold flat
 congr 1
 exact List.map_congr_left h
theorem getD_set_self {α : Type} (l : List α) (i : Nat) (x z : α) (h : i < l.length) : (l.set i x).getD i z = x := by simp [List.getD_eq_getElem?_getD, h]
theorem getD_set_ne {α : Type} (l : List α) (i j : Nat) (x z : α) (h : i ≠ j) : (l.set i x).getD j z = l.getD j z := by simp [List.getD_eq_getElem?_getD, List.getElem?_set_ne h]

def trail : List Mg → List Nat → Option (List Nat)
 | [], g => some g
 | m :: ms, g => if m.2.1 < m.2.2 ∧ m.2.1 ∉ g ∧ m.2.2 ∉ g then trail ms (m.2.2 :: g) else none
theorem trail_append (a b : List Mg) : ∀ g, trail (a ++ b) g = (trail a g).bind (trail b) := by
 induction a with
 | nil => intro g; rfl
 | cons m a ih =>
  intro g
  simp only [List.cons_append, trail]
  split
  ·exact ih _
  ·rfl
theorem split_at {row : List Nat} {j : Nat} (h : j + 1 < row.length) : row = row.take j ++ row.getD j 0 :: row.getD (j + 1) 0 :: row.drop (j + 2) := by
 have e1 : row.drop j = row.getD j 0 :: row.drop (j + 1) := by
  rw [List.drop_eq_getElem_cons (by omega)]; simp [List.getD_eq_getElem?_getD, List.getElem?_eq_getElem (show j < row.length by omega)]
 have e2 : row.drop (j + 1) = row.getD (j + 1) 0 :: row.drop (j + 2) := by
  rw [List.drop_eq_getElem_cons h]; simp [List.getD_eq_getElem?_getD, List.getElem?_eq_getElem h]
 rw [← e2, ← e1, List.take_append_drop]
theorem erase_at {row : List Nat} {j : Nat} (h : j + 1 < row.length) : row.eraseIdx (j + 1) = row.take j ++ row.getD j 0 :: row.drop (j + 2) := by
 rw [List.eraseIdx_eq_take_drop_succ, List.take_succ_eq_append_getElem (show j < row.length by omega), List.append_assoc]
 simp [List.getD_eq_getElem?_getD, List.getElem?_eq_getElem (show j < row.length by omega)]
theorem mergeGo_spec (t : Nat) (pre : List Nat) : ∀ (n : Nat) (row : List Nat) (vs : List (List Int)) (ps : List Int) (ms : List Mg), row.length = n + 1 → (pre ++ row).Pairwise (· < ·) → (∀ i, i ∈ pre ++ row → i < vs.length) →
  ∃ h new, row.head? = some h ∧ (mergeGo red t n row vs ps ms).1 = [h] ∧ (mergeGo red t n row vs ps ms).2.1.length = vs.length ∧
   (∀ i, i ∈ pre → (mergeGo red t n row vs ps ms).2.1.getD i [] = vs.getD i []) ∧ (mergeGo red t n row vs ps ms).2.1.getD h [] = flat vs row ∧
   (mergeGo red t n row vs ps ms).2.2.2 = ms ++ new ∧ new.length = n ∧ (∀ m, m ∈ new → m.1 = t ∧ m.2.2 < vs.length) ∧
   (∀ g, (∀ i, i ∈ g → i ∉ row) → ∃ g', trail new g = some g' ∧ ∀ i, i ∈ g' ↔ i ∈ g ∨ (i ∈ row ∧ i ≠ h)) := by
 intro n
 induction n with
 | zero =>
  intro row vs ps ms hl hp hb
  obtain ⟨h, rfl⟩ := List.length_eq_one_iff.1 (by simpa using hl)
  refine ⟨h, [], rfl, rfl, rfl, fun _ _ => rfl, by simp [mergeGo, flat], by simp [mergeGo], rfl, by simp, fun g _ => ⟨g, rfl, fun i => ?_⟩⟩
  simp
 | succ n ih =>
  intro row vs ps ms hl hp hb
  simp only [mergeGo]
  generalize hj : pickOf ps (n + 1) = j
  have hjl : j + 1 < row.length := by have := pick_lt ps n; omega
  have es := split_at hjl
  have ee := erase_at hjl
  generalize row.getD j 0 = a at *
  generalize row.getD (j + 1) 0 = b at *
  generalize hA : row.take j = A at *
  generalize hB : row.drop (j + 2) = B at *
  rw [ee]
  subst es
  have hp0 := hp
  rw [← List.append_assoc, List.pairwise_append] at hp
  obtain ⟨hpA, hpB, hpx⟩ := hp
  have hab : a < b := by
   rw [List.pairwise_cons] at hpB
   exact hpB.1 b (by simp)
  have hsub : (pre ++ (A ++ a :: B)).Sublist (pre ++ (A ++ a :: b :: B)) :=
   (List.Sublist.refl pre).append ((List.Sublist.refl A).append ((List.sublist_cons_self b B).cons_cons a))
  have halt : a < vs.length := hb a (by simp)
  obtain ⟨h, new, h1, h2, h3, h4, h5, h6, h7, h8, h9⟩ := ih (A ++ a :: B) (vs.set a (red.join (vs.getD a red.fresh) (vs.getD b red.fresh))) ps.tail (ms ++ [(t, a, b)]) (by simp at hl ⊢; omega)
   (hp0.sublist hsub) (fun i hi => by rw [List.length_set]; exact hb i (hsub.subset hi))
  have hhead : (A ++ a :: b :: B).head? = some h := by
   rw [← h1]; cases A <;> rfl
  have hnd : (pre ++ (A ++ a :: b :: B)).Nodup := hp0.imp (fun h => by omega)
  have hbn : b ≠ h := by
   intro e
   subst e
   cases A with
   | nil => simp at hhead; omega
   | cons x A =>
    simp at hhead
    subst hhead
    have := hpx x (by simp) x (by simp)
    omega
  refine ⟨h, (t, a, b) :: new, hhead, h2, by rw [h3, List.length_set], fun i hi => ?_, ?_, by rw [h6]; simp, by simp [h7], ?_, ?_⟩
  ·rw [h4 i hi]
   refine getD_set_ne _ _ _ _ _ (fun e => ?_)
   subst e
   have := hpx a (by simp [hi]) a (by simp)
   omega
  ·rw [h5]
   have hA' : flat (vs.set a (red.join (vs.getD a red.fresh) (vs.getD b red.fresh))) A = flat vs A := flat_same (fun i hi => getD_set_ne _ _ _ _ _ (fun e => by
    subst e
    have := hpx a (by simp [hi]) a (by simp)
    omega))
   have hB' : flat (vs.set a (red.join (vs.getD a red.fresh) (vs.getD b red.fresh))) B = flat vs B := flat_same (fun i hi => getD_set_ne _ _ _ _ _ (fun e => by
    subst e
    rw [List.pairwise_cons] at hpB
    have := hpB.1 a (by simp [hi])
    omega))
   rw [flat_append, flat_append, flat_cons, flat_cons, flat_cons, hA', hB', getD_set_self _ _ _ _ halt]
   simp [red]
  ·intro m hm
   rcases List.mem_cons.1 hm with rfl | hm
   ·exact ⟨rfl, hb b (by simp)⟩
   ·obtain ⟨h10, h11⟩ := h8 m hm
    exact ⟨h10, by rw [List.length_set] at h11; exact h11⟩
  ·intro g hg
   have hag : a ∉ g := fun h => hg a h (by simp)
   have hbg : b ∉ g := fun h => hg b h (by simp)
   simp only [trail]
   rw [if_pos ⟨hab, hag, hbg⟩]
   have hbA : b ∉ A ++ a :: B := by
    intro hin
    rw [List.nodup_append] at hnd
    have hn2 := hnd.2.1
    rw [show A ++ a :: b :: B = (A ++ [a]) ++ b :: B by simp, List.nodup_append] at hn2
    obtain ⟨_, hn3, hn4⟩ := hn2
    rw [List.nodup_cons] at hn3
    rcases List.mem_append.1 hin with hin | hin
    ·exact hn4 b (by simp [hin]) b (by simp) rfl
    ·rcases List.mem_cons.1 hin with rfl | hin
     ·omega
     ·exact hn3.1 hin
   obtain ⟨g', e1, e2⟩ := h9 (b :: g) (fun i hi => by
    rcases List.mem_cons.1 hi with rfl | hi
    ·exact hbA
    ·intro hin
     refine hg i hi ?_
     have := ((List.Sublist.refl A).append ((List.sublist_cons_self b B).cons_cons a)).subset hin
     exact this)
   refine ⟨g', e1, fun i => ?_⟩
   rw [e2]
   constructor
   ·rintro (hi | ⟨hi, hne⟩)
    ·rcases List.mem_cons.1 hi with rfl | hi
     ·exact .inr ⟨by simp, hbn⟩
     ·exact .inl hi
    ·exact .inr ⟨((List.Sublist.refl A).append ((List.sublist_cons_self b B).cons_cons a)).subset hi, hne⟩
   ·rintro (hi | ⟨hi, hne⟩)
    ·exact .inl (List.mem_cons_of_mem _ hi)
    ·by_cases e : i = b
     ·subst e; exact .inl (by simp)
     ·refine .inr ⟨?_, hne⟩
      simp only [List.mem_append, List.mem_cons] at hi ⊢
      rcases hi with hi | hi | hi | hi
      ·exact .inl hi
      ·exact .inr (.inl hi)
      ·exact absurd hi e
      ·exact .inr (.inr hi)

structure Inv (s : St (List Int)) (L : List Int) : Prop where
 linked : linked s.cur s.up
 sorted : (live s.cur s.up).Pairwise (· < ·)
 bound : ∀ i, i ∈ live s.cur s.up → i < s.views.length
 first : (live s.cur s.up).head? = some 0
 value : flat s.views (live s.cur s.up) = L
 spawns : s.up.length ≤ s.spawns.length
 gone : ∃ g, trail s.merges [] = some g ∧ ∀ i, i ∈ g ↔ i < s.views.length ∧ i ∉ live s.cur s.up
 count : s.merges.length + (live s.cur s.up).length = s.views.length
 below : ∀ m, m ∈ s.merges → m.2.2 < s.views.length

theorem head_append {α : Type} {a b c : List α} (h : b.head? = c.head?) : (a ++ b).head? = (a ++ c).head? := by cases a <;> simp [h]
theorem Inv.start (ps : List Int) : Inv (start red ps) [] :=
 ⟨by simp [Play.start, Play.linked], by simp [Play.start, live], by simp [Play.start, live], rfl, rfl, Nat.le_refl _, ⟨[], rfl, fun i => by simp [Play.start, live]⟩, rfl, by simp [Play.start]⟩
theorem last_of_ne (l : List Nat) (h : l ≠ []) : l.getLastD 0 = l.getLast h := by
 cases l with
 | nil => exact absurd rfl h
 | cons a b => simp [List.getLastD]
theorem Inv.hand_live {s : St (List Int)} {L : List Int} (h : Inv s L) : ∃ pre, live s.cur s.up = pre ++ [s.hand] := by
 have hl := live_last h.linked
 have hne := linked_ne h.linked
 have hn2 : live s.cur s.up ≠ [] := fun e => by have := h.first; rw [e] at this; simp at this
 refine ⟨(live s.cur s.up).dropLast, ?_⟩
 have e : s.hand = (live s.cur s.up).getLast hn2 := by
  rw [List.getLast?_eq_some_getLast hn2, List.getLast?_eq_some_getLast hne] at hl
  injection hl with hl
  rw [hl]
  exact last_of_ne _ hne
 rw [e, List.dropLast_concat_getLast]
theorem Inv.hand_lt {s : St (List Int)} {L : List Int} (h : Inv s L) : s.hand < s.views.length := by
 obtain ⟨pre, hp⟩ := h.hand_live
 exact h.bound _ (by rw [hp]; simp)
theorem Inv.look {s : St (List Int)} {L : List Int} (h : Inv s L) : ∃ a, L = a ++ s.views.getD s.hand [] := by
 obtain ⟨pre, hp⟩ := h.hand_live
 refine ⟨flat s.views pre, ?_⟩
 rw [← h.value, hp, flat_append, flat_cons, flat_nil, List.append_nil]
theorem Inv.write {s : St (List Int)} {L : List Int} (h : Inv s L) (x : Int) : Inv (s.write red x) (L ++ [x]) := by
 obtain ⟨pre, hp⟩ := h.hand_live
 have hlt := h.hand_lt
 have hs := h.sorted
 refine ⟨h.linked, h.sorted, fun i hi => by simpa [St.write] using h.bound i hi, h.first, ?_, h.spawns, by simpa [St.write] using h.gone, by simpa [St.write] using h.count, by simpa [St.write] using h.below⟩
 rw [← h.value]
 simp only [St.write]
 rw [hp, flat_append, flat_append, flat_cons, flat_cons, flat_nil, flat_nil, getD_set_self _ _ _ _ hlt, flat_same (ws := s.views) (l := pre) (fun i hi => getD_set_ne _ _ _ _ _ (fun e => by
  subst e
  rw [hp, List.pairwise_append] at hs
  have := hs.2.2 _ hi s.hand (by simp)
  omega))]
 simp [red]
theorem Inv.read {s : St (List Int)} {L : List Int} (h : Inv s L) : Inv (s.read red) L := ⟨h.linked, h.sorted, h.bound, h.first, h.value, h.spawns, h.gone, h.count, h.below⟩
theorem hand_last {s : St (List Int)} (h : s.cur ≠ []) : s.cur.getLast? = some s.hand := by
 rw [List.getLast?_eq_some_getLast h]
 exact congrArg some (last_of_ne _ h).symm
theorem Inv.spawn {s : St (List Int)} {L : List Int} (h : Inv s L) : Inv s.spawn L := by
 have e : live s.spawn.cur s.spawn.up = live s.cur s.up := by simp [St.spawn, live]
 refine ⟨⟨by simp [St.spawn], ?_, h.linked⟩, by rw [e]; exact h.sorted, by rw [e]; exact h.bound, by rw [e]; exact h.first, by rw [e]; exact h.value, by simp [St.spawn, h.spawns], by rw [e]; exact h.gone, by rw [e]; exact h.count, h.below⟩
 rw [hand_last (linked_ne h.linked)]; simp [St.spawn]
theorem Inv.merge {s : St (List Int)} {L : List Int} (h : Inv s L) (t : Nat) : Inv (s.merge red t) L ∧ ∃ x, s.cur.head? = some x ∧ (s.merge red t).cur = [x] ∧ (s.merge red t).views.length = s.views.length ∧
  (s.merge red t).views.getD x [] = flat s.views s.cur ∧ (∀ i, i ∈ live s.cur s.up → i ∉ s.cur → (s.merge red t).views.getD i [] = s.views.getD i []) ∧
  ∃ new, (s.merge red t).merges = s.merges ++ new ∧ new.length + 1 = s.cur.length ∧ ∀ m, m ∈ new → m.1 = t := by
 obtain ⟨pre, hpre⟩ := live_pre h.linked
 have e0 := (hpre s.cur rfl).1
 have hne := linked_ne h.linked
 have hs := h.sorted
 have hb := h.bound
 have hpos : s.cur.length ≠ 0 := fun e => hne (List.eq_nil_of_length_eq_zero e)
 rw [e0] at hs hb
 obtain ⟨x, new, h1, h2, h3, h4, h5, h6, h7, h8, h9⟩ := mergeGo_spec t pre (s.cur.length - 1) s.cur s.views s.picks s.merges (by omega) hs hb
 have hc : (s.merge red t).cur = [x] := h2
 have hv : (s.merge red t).views = (mergeGo red t (s.cur.length - 1) s.cur s.views s.picks s.merges).2.1 := rfl
 obtain ⟨e1, l1⟩ := hpre [x] (by rw [h1]; rfl)
 have e2 : live (s.merge red t).cur (s.merge red t).up = pre ++ [x] := by rw [hc]; exact e1
 have hcur : ∃ c, s.cur = x :: c := by
  cases hcc : s.cur with
  | nil => exact absurd hcc hne
  | cons a c => rw [hcc] at h1; simp at h1; exact ⟨c, by rw [h1]⟩
 obtain ⟨c, hcc⟩ := hcur
 have hsub : (pre ++ [x]).Sublist (pre ++ s.cur) := by rw [hcc]; exact (List.Sublist.refl pre).append ((List.nil_sublist c).cons_cons x)
 refine ⟨⟨by rw [hc]; exact l1, by rw [e2]; exact hs.sublist hsub, by rw [e2, hv, h3]; exact fun i hi => hb i (hsub.subset hi), ?_, ?_, h.spawns, ?_, ?_, ?_⟩, x, h1, hc, by rw [hv, h3], by rw [hv, h5], fun i hi hni => ?_, new, h6, by omega, fun m hm => (h8 m hm).1⟩
 ·rw [e2, ← h.first, e0]; exact head_append (by rw [h1]; rfl)
 ·rw [e2, flat_append, flat_cons, flat_nil, List.append_nil, hv, h5, flat_same (ws := s.views) (l := pre) h4, ← flat_append, ← e0, h.value]
 ·obtain ⟨g, hg1, hg2⟩ := h.gone
  obtain ⟨g', e3, e4⟩ := h9 g (fun i hi hin => ((hg2 i).1 hi).2 (by rw [e0]; simp [hin]))
  refine ⟨g', by rw [show (s.merge red t).merges = s.merges ++ new from h6, trail_append, hg1]; exact e3, fun i => ?_⟩
  rw [e4, hg2, e2, e0, hv, h3]
  have hdis : ∀ i, i ∈ pre → i ∉ s.cur := fun i hi hin => by
   rw [List.pairwise_append] at hs
   have := hs.2.2 i hi i hin
   omega
  simp only [List.mem_append, List.mem_singleton, not_or]
  constructor
  ·rintro (⟨h10, h11, h12⟩ | ⟨h10, h11⟩)
   ·exact ⟨h10, h11, fun e => h12 (by rw [e, hcc]; simp)⟩
   ·exact ⟨hb i (by simp [h10]), fun hi => hdis i hi h10, h11⟩
  ·rintro ⟨h10, h11, h12⟩
   by_cases hin : i ∈ s.cur
   ·exact .inr ⟨hin, h12⟩
   ·exact .inl ⟨h10, h11, hin⟩
 ·have := h.count
  rw [e0] at this
  rw [show (s.merge red t).merges = s.merges ++ new from h6, e2, hv, h3, List.length_append, h7]
  simp at this ⊢
  omega
 ·intro m hm
  rw [show (s.merge red t).merges = s.merges ++ new from h6] at hm
  rw [hv, h3]
  rcases List.mem_append.1 hm with hm | hm
  ·exact h.below m hm
  ·exact (h8 m hm).2
 ·have : i ∈ pre := by
   rw [e0] at hi
   rcases List.mem_append.1 hi with hi | hi
   ·exact hi
   ·exact absurd hi hni
  rw [hv]; exact h4 i this
theorem Inv.leave {s : St (List Int)} {L : List Int} (h : Inv s L) {x : Nat} (hc : s.cur = [x]) {r : List Nat} {up : List (List Nat)} (hu : s.up = r :: up) (sp : List Nat) (hsp : up.length ≤ sp.length) : Inv { s.leave with spawns := sp } L := by
 have e : live ({ s.leave with spawns := sp } : St (List Int)).cur ({ s.leave with spawns := sp } : St (List Int)).up = live s.cur s.up := by
  simp [St.leave, hu, hc, live]
 have hl := h.linked
 rw [hu] at hl
 refine ⟨?_, by rw [e]; exact h.sorted, by rw [e]; exact h.bound, by rw [e]; exact h.first, by rw [e]; exact h.value, ?_, by rw [e]; exact h.gone, by rw [e]; exact h.count, h.below⟩
 ·simpa [St.leave, hu] using hl.2.2
 ·simpa [St.leave, hu] using hsp
theorem Inv.made {s : St (List Int)} {L : List Int} (h : Inv s L) : Inv (s.made red) L := by
 have hne := linked_ne h.linked
 obtain ⟨pre, hpre⟩ := live_pre h.linked
 have e0 := (hpre s.cur rfl).1
 have e1 := hpre (s.cur ++ [s.views.length]) (by cases hc : s.cur with
  | nil => exact absurd hc hne
  | cons a b => rfl)
 have e2 : live (s.made red).cur (s.made red).up = live s.cur s.up ++ [s.views.length] := by rw [e0, List.append_assoc]; exact e1.1
 have hb := h.bound
 refine ⟨e1.2, ?_, ?_, ?_, ?_, h.spawns, ?_, ?_, ?_⟩
 ·rw [e2, List.pairwise_append]
  exact ⟨h.sorted, by simp, fun a ha b hb' => by rw [List.mem_singleton] at hb'; subst hb'; exact hb a ha⟩
 ·rw [e2]
  intro i hi
  simp only [St.made, List.length_append, List.length_singleton]
  rcases List.mem_append.1 hi with hi | hi
  ·have := hb i hi; omega
  ·rw [List.mem_singleton] at hi; omega
 ·rw [e2]
  have := h.first
  cases hx : live s.cur s.up with
  | nil => rw [hx] at this; simp at this
  | cons a b => rw [hx] at this; simpa using this
 ·rw [e2, flat_append, flat_cons, flat_nil, List.append_nil]
  have h1 : flat (s.made red).views (live s.cur s.up) = flat s.views (live s.cur s.up) := flat_same (fun i hi => by
   have := hb i hi
   simp [St.made, List.getD_eq_getElem?_getD, List.getElem?_append_left this])
  rw [h1, h.value]
  simp [St.made, List.getD_eq_getElem?_getD, red]
 ·obtain ⟨g, hg1, hg2⟩ := h.gone
  refine ⟨g, hg1, fun i => ?_⟩
  rw [hg2, e2]
  simp only [St.made, List.length_append, List.length_singleton, List.mem_append, List.mem_singleton, not_or]
  constructor
  ·rintro ⟨h1, h2⟩; exact ⟨by omega, h2, by omega⟩
  ·rintro ⟨h1, h2, h3⟩; exact ⟨by omega, h2⟩
 ·rw [e2]
  have := h.count
  simp [St.made] at this ⊢
  omega
 ·intro m hm
  have := h.below m hm
  simp [St.made] at this ⊢
  omega
theorem Inv.back {s : St (List Int)} {L : List Int} (h : Inv s L) (stolen : List Bool) {x : Nat} (hc : s.cur = [x]) {r : List Nat} {up : List (List Nat)} (hu : s.up = r :: up) : Inv (s.back red stolen) L := by
 have h1 : Inv { s.leave with spawns := s.spawns.tail } L := h.leave hc hu _ (by have := h.spawns; rw [hu] at this; simp at this ⊢; omega)
 unfold St.back
 split
 ·exact h1.made
 ·exact h1
theorem Inv.step {s : St (List Int)} {L : List Int} (h : Inv s L) (stolen : List Bool) (t : Nat) (d : Int × Int) (hd : d.1 = 1 → s.up ≠ []) : Inv (step red stolen t d s) (L ++ puts [d]) := by
 unfold Play.step
 by_cases h4 : d.1 = 4
 ·rw [if_pos h4, show puts [d] = [d.2] by simp [puts, h4]]; exact h.write _
 ·rw [if_neg h4, show puts [d] = [] by simp [puts, h4], List.append_nil]
  by_cases h3 : d.1 = 3
  ·rw [if_pos h3]; exact h.read
  ·rw [if_neg h3]
   by_cases h0 : d.1 = 0
   ·rw [if_pos h0]; exact h.spawn
   ·rw [if_neg h0]
    by_cases h2 : d.1 = 2
    ·rw [if_pos h2]; exact (h.merge t).1
    ·rw [if_neg h2]
     by_cases h1 : d.1 = 1
     ·rw [if_pos h1]
      obtain ⟨hm, x, _, hc, _⟩ := h.merge t
      cases hu : s.up with
      | nil => exact absurd hu (hd h1)
      | cons r up => exact hm.back stolen hc hu
     ·rw [if_neg h1]; exact h
theorem step_up {s : St (List Int)} (stolen : List Bool) (t : Nat) (d : Int × Int) : (Play.step red stolen t d s).up.length = if d.1 = 0 then s.up.length + 1 else if d.1 = 1 then s.up.length - 1 else s.up.length := by
 unfold Play.step
 by_cases h4 : d.1 = 4
 ·rw [if_pos h4, if_neg (by omega), if_neg (by omega)]; rfl
 ·rw [if_neg h4]
  by_cases h3 : d.1 = 3
  ·rw [if_pos h3, if_neg (by omega), if_neg (by omega)]; rfl
  ·rw [if_neg h3]
   by_cases h0 : d.1 = 0
   ·rw [if_pos h0, if_pos h0]; rfl
   ·rw [if_neg h0, if_neg h0]
    by_cases h2 : d.1 = 2
    ·rw [if_pos h2, if_neg (by omega)]; rfl
    ·rw [if_neg h2]
     by_cases h1 : d.1 = 1
     ·rw [if_pos h1, if_pos h1]
      unfold St.back
      split <;> simp [St.made, St.leave, St.merge]
     ·rw [if_neg h1, if_neg h1]
theorem Inv.run (stolen : List Bool) (ds : List (Int × Int)) : ∀ (t : Nat) (s : St (List Int)) (L : List Int), Inv s L → right s.up.length ds = true → Inv (run red stolen t ds s) (L ++ puts ds) := by
 induction ds with
 | nil => intro t s L h _; simpa [Play.run, puts] using h
 | cons d ds ih =>
  intro t s L h hr
  have hd : d.1 = 1 → s.up ≠ [] := fun h1 e => by
   rw [e] at hr
   simp [right, h1] at hr
  have hs := h.step stolen t d hd
  have hr' : right (Play.step red stolen t d s).up.length ds = true := by
   rw [step_up]
   simp only [right] at hr
   by_cases h0 : d.1 = 0
   ·rw [if_pos h0] at hr ⊢; exact hr
   ·rw [if_neg h0] at hr ⊢
    by_cases h1 : d.1 = 1
    ·rw [if_pos h1] at hr ⊢
     cases hu : s.up.length with
     | zero => rw [hu] at hr; simp at hr
     | succ m => rw [hu] at hr; simpa using hr
    ·rw [if_neg h1] at hr ⊢
     split at hr
     ·exact hr
     ·exact absurd hr (by simp)
  have := ih (t + 1) _ _ hs hr'
  simp only [Play.run]
  rw [List.append_assoc, ← puts_append] at this
  exact this
theorem Inv.finish (t : Nat) : ∀ (n : Nat) (s : St (List Int)) (L : List Int), Inv s L → s.up.length = n → Inv (finish red t n s) L ∧ (finish red t n s).up = [] ∧ (finish red t n s).cur = [0] := by
 intro n
 induction n with
 | zero =>
  intro s L h hn
  have hu : s.up = [] := List.eq_nil_of_length_eq_zero hn
  obtain ⟨hm, x, hx, hc, _⟩ := h.merge t
  refine ⟨hm, hu, ?_⟩
  have hf := hm.first
  have hu2 : (s.merge red t).up = [] := hu
  rw [hu2, hc] at hf
  simp [live] at hf
  subst hf
  exact hc
 | succ n ih =>
  intro s L h hn
  cases hu : s.up with
  | nil => rw [hu] at hn; simp at hn
  | cons r up =>
   obtain ⟨hm, x, hx, hc, _⟩ := h.merge t
   have hl : Inv (s.merge red t).leave L := by
    exact hm.leave hc (r := r) (up := up) hu s.spawns (by have := h.spawns; rw [hu] at this; simp at this; omega)
   exact ih _ L hl (by simp [St.leave, St.merge, hu]; rw [hu] at hn; simpa using hn)
end Go.Proofs.YtamfkglnejhjdaaDoor.Play
