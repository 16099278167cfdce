/- Plain law for layer 7, sixth part: Search of both, as one search over plain lists. -/
import Derived.Test.YtbigfkfnlbfkhaaMPredD
import Derived.Test.YtbigfkfnlbfkhaaGPredSx2
import Derived.Test.YtbigfkfnlbfkhaaGPredDx2
namespace Go.Proofs.Ytbigfkfnlbfkhaa.MPred
open Go.RowKit Go.Proofs.YtbigfkfnlbfkhaaW.PrintWords Go.Proofs.YtbigfkfnlbfkhaaW.PrintMore Go.Proofs.Ytbigfkfnlbfkhaa.HPred Go.Proofs.Ytbigfkfnlbfkhaa.GPredF Go.Proofs.Ytbigfkfnlbfkhaa.GPred Go.Proofs.Ytbigfkfnlbfkhaa.HSearch Go.Proofs.Ytbigfkfnlbfkhaa.GPredS Go.Proofs.Ytbigfkfnlbfkhaa.GPredD

/-- The model that a search begins with. -/
def beginL (o : Nat) : List Int := match predict_begin.f 60 (o : Int) with
  | some p => p.1
  | none => []
theorem begin_fin : ∀ o : Fin 9, predict_begin.f 60 ((o.val : Nat) : Int) = some (beginL o.val, 4) ∧ shellacref07_Begin.f 60 ((o.val : Nat) : Int) = some (beginL o.val, 4) ∧ (beginL o.val).length = o.val ∧ goodB (beginL o.val) 4 = true := by decide +kernel
theorem begin_all (o : Nat) (h : o ≤ 8) : predict_begin.f 60 (o : Int) = some (beginL o, 4) ∧ shellacref07_Begin.f 60 (o : Int) = some (beginL o, 4) ∧ (beginL o).length = o ∧ goodB (beginL o) 4 = true :=
  begin_fin ⟨o, by omega⟩
theorem begin_ev (o : Nat) (h : o ≤ 8) : Ev (fun k => predict_begin.f k (o : Int)) (beginL o, 4) :=
  Ev.of (fun k => predict_begin.mono _ k) (begin_all o h).1
theorem docbegin_ev (o : Nat) (h : o ≤ 8) : Ev (fun k => shellacref07_Begin.f k (o : Int)) (beginL o, 4) :=
  Ev.of (fun k => shellacref07_Begin.mono _ k) (begin_all o h).2.1

/-- One move of one coefficient. -/
def better (b : Option Int) (c : Int × Int) : Bool := decide (c.2 = 0) && (match b with
  | none => true
  | some x => decide (c.1 < x))
def cand (m : List Int) (i : Nat) (d : Int) : List Int := m.set i (wrap64 (rd m i + d))
def move (s : List Int) (q : List Int × Option Int) (i : Nat) (d : Int) : List Int × Option Int :=
  if better q.2 (costAll (cand q.1 i d) 4 s) = true then (cand q.1 i d, some (costAll (cand q.1 i d) 4 s).1) else q
def two (s : List Int) (q : List Int × Option Int) (i : Nat) (st : Int) : List Int × Option Int := move s (move s q i st) i (-st)
def sweep (s : List Int) (st : Int) : Nat → Nat → List Int × Option Int → List Int × Option Int
  | 0, _, q => q
  | d + 1, i, q => sweep s st d (i + 1) (two s q i st)
def first (s : List Int) (m : List Int) : Option Int := if (costAll m 4 s).2 = 0 then some (costAll m 4 s).1 else none
def four (s : List Int) (o : Nat) (q : List Int × Option Int) : List Int × Option Int := sweep s 1 o 0 (sweep s 2 o 0 (sweep s 4 o 0 (sweep s 8 o 0 q)))
def searchAll (s : List Int) (a : Int) : List Int × Int × Int :=
  if a < 0 then ([], 0, 1) else if a > 8 then ([], 0, 1) else if (s.length : Int) < a then ([], 0, 1) else if s.any wideB = true then ([], 0, 12) else
    ((four s a.toNat (beginL a.toNat, first s (beginL a.toNat))).1, 4, 0)

theorem move_len (s : List Int) (q : List Int × Option Int) (i : Nat) (d : Int) : (move s q i d).1.length = q.1.length := by
  unfold move cand
  split <;> simp
theorem two_len (s : List Int) (q : List Int × Option Int) (i : Nat) (d : Int) : (two s q i d).1.length = q.1.length := by
  unfold two
  rw [move_len, move_len]
theorem sweep_len (s : List Int) (st : Int) : ∀ (d i : Nat) (q : List Int × Option Int), (sweep s st d i q).1.length = q.1.length
  | 0, _, _ => rfl
  | d + 1, i, q => by
    simp only [sweep]
    rw [sweep_len s st d (i + 1), two_len]
theorem four_len (s : List Int) (o : Nat) (q : List Int × Option Int) : (four s o q).1.length = q.1.length := by
  unfold four
  rw [sweep_len, sweep_len, sweep_len, sweep_len]

theorem cost_bd (m s : List Int) (hs : s.length ≤ 1000000) : (costAll m 4 s).1 < 4611686018427387904 := by
  have h1 := resAll_fit m s 4
  have h2 := resAll_len m s 4
  have h3 := sumTo_bd h1 (resAll m 4 s).1.length (Nat.le_refl _)
  unfold costAll
  dsimp only
  omega

/-- How the program keeps the best. -/
def Rp (b : Option Int) (x : Int) (y : Bool) : Prop := match b with
  | none => y = false
  | some z => y = true ∧ x = z
/-- How the reference keeps the best. -/
def Rr (b : Option Int) (x : Int) : Prop := match b with
  | none => x = 4611686018427387904
  | some z => x = z

theorem pmove {s : List Int} (hs : s.length ≤ 1000000) {o : Int} {q : List Int × Option Int} (hm : q.1.length ≤ 8) {st : Int} (i : Nat) (hi : i < q.1.length) (j : Int) (hj0 : 0 ≤ j) (hj : j < 2) {x7 : Int} {x9 : Bool} (hR : Rp q.2 x7 x9)
    {x49 : Int} {r : List Int × Int × Int} {d : Int} (hd : pick2 j st (wrap64 (-st)) = d)
    (next : ∀ y7 y9, Rp (move s q i d).2 y7 y9 → Ev (fun k => predict_Search.l2 k s o y7 y9 st i x49 i (j + 1) (move s q i d).1 4) r) :
    Ev (fun k => predict_Search.l2 k s o x7 x9 st i x49 i j q.1 4) r := by
  obtain ⟨m, b⟩ := q
  dsimp only at *
  refine Ev.step (fun k => by rw [predict_Search.l2]) ?_
  have ej : wrap64 (j + 1) = j + 1 := w64 (by omega) (by omega)
  refine Ev.ite_pos hj (Ev.ite_pos hj0 ?_)
  refine Ev.cbind (show clone.f m = some m by unfold clone.f; rw [if_pos (by omega)]) ?_
  refine Ev.ite_pos (by omega) (Ev.ite_pos (by omega) ?_)
  rw [hd]
  refine Ev.cbind rfl ?_
  refine Ev.bind (cost_ev _ s 4 hs) ?_
  have ec : m.set ((i : Nat) : Int).toNat (wrap64 (rd m i + d)) = cand m i d := rfl
  rw [ec]
  have hmv : move s (m, b) i d = if better b (costAll (cand m i d) 4 s) = true then (cand m i d, some (costAll (cand m i d) 4 s).1) else (m, b) := rfl
  rw [hmv] at next
  generalize costAll (cand m i d) 4 s = c at *
  obtain ⟨c1, c2⟩ := c
  dsimp only at *
  have good : better b (c1, c2) = true → Ev (fun k => predict_Search.j4 k s o x7 x9 st i c1 x49 i j true m 4 (cand m i d) 4) r := by
    intro hb
    rw [hb, if_pos rfl] at next
    refine Ev.step (fun k => by rw [predict_Search.j4]) ?_
    refine Ev.ite_pos rfl ?_
    rw [ej]
    exact next _ _ ⟨rfl, rfl⟩
  have bad : better b (c1, c2) = false → Ev (fun k => predict_Search.j4 k s o x7 x9 st i c1 x49 i j false m 4 (cand m i d) 4) r := by
    intro hb
    rw [hb, if_neg (by decide)] at next
    refine Ev.step (fun k => by rw [predict_Search.j4]) ?_
    refine Ev.ite_neg (by decide) ?_
    rw [ej]
    exact next _ _ hR
  by_cases h0 : c2 = 0
  · refine Ev.ite_pos h0 ?_
    cases b with
    | none =>
      obtain rfl : x9 = false := hR
      refine Ev.ite_neg (by decide) ?_
      exact good (by simp [better, h0])
    | some z =>
      obtain ⟨rfl, rfl⟩ : x9 = true ∧ x7 = z := hR
      refine Ev.ite_pos rfl ?_
      by_cases hz : c1 < x7
      · rw [decide_eq_true hz]
        exact good (by simp [better, h0, hz])
      · rw [decide_eq_false hz]
        exact bad (by simp [better, h0]; omega)
  · refine Ev.ite_neg h0 ?_
    exact bad (by simp [better, h0])

theorem rmove {s : List Int} (hs : s.length ≤ 1000000) {o : Int} {q : List Int × Option Int} (hm : q.1.length ≤ 8) {st : Int} (i : Nat) (hi : i < q.1.length) (j : Int) (hj0 : 0 ≤ j) (hj : j < 2) {x7 : Int} (hR : Rr q.2 x7)
    {t : Nat} (ht : t < 4) (hst : rd [8, 4, 2, 1] (t : Int) = st) {r : List Int × Int × Int} {d : Int} (hd : wrap64 (st * wrap64 (1 - wrap64 (2 * j))) = d)
    (next : ∀ y7, Rr (move s q i d).2 y7 → Ev (fun k => shellacref07_DocSearch.l2 k s o y7 [8, 4, 2, 1] t i (j + 1) (move s q i d).1 4) r) :
    Ev (fun k => shellacref07_DocSearch.l2 k s o x7 [8, 4, 2, 1] t i j q.1 4) r := by
  obtain ⟨m, b⟩ := q
  dsimp only at *
  refine Ev.step (fun k => by rw [shellacref07_DocSearch.l2]) ?_
  have ej : wrap64 (j + 1) = j + 1 := w64 (by omega) (by omega)
  refine Ev.ite_pos hj ?_
  refine Ev.cbind rfl ?_
  refine Ev.ite_pos (by simp; omega) ?_
  refine Ev.cbind rfl ?_
  simp only [List.nil_append]
  refine Ev.ite_pos (by omega) (Ev.ite_pos (by omega) (Ev.ite_pos (by omega) (Ev.ite_pos (by simp; omega) ?_)))
  rw [hst, hd]
  refine Ev.cbind rfl ?_
  refine Ev.bind (doccost_ev _ s 4 hs) ?_
  have ec : m.set ((i : Nat) : Int).toNat (wrap64 (rd m i + d)) = cand m i d := rfl
  rw [ec, ej]
  have hbd := cost_bd (cand m i d) s hs
  have hmv : move s (m, b) i d = if better b (costAll (cand m i d) 4 s) = true then (cand m i d, some (costAll (cand m i d) 4 s).1) else (m, b) := rfl
  rw [hmv] at next
  generalize costAll (cand m i d) 4 s = c at *
  obtain ⟨c1, c2⟩ := c
  dsimp only at *
  have good : better b (c1, c2) = true → Ev (fun k => shellacref07_DocSearch.l2 k s o c1 [8, 4, 2, 1] t i (j + 1) (cand m i d) 4) r := by
    intro hb
    rw [hb, if_pos rfl] at next
    exact next _ rfl
  have bad : better b (c1, c2) = false → Ev (fun k => shellacref07_DocSearch.l2 k s o x7 [8, 4, 2, 1] t i (j + 1) m 4) r := by
    intro hb
    rw [hb, if_neg (by decide)] at next
    exact next _ hR
  by_cases h0 : c2 = 0
  · refine Ev.ite_pos h0 ?_
    cases b with
    | none =>
      obtain rfl : x7 = 4611686018427387904 := hR
      refine Ev.ite_pos hbd ?_
      exact good (by simp [better, h0])
    | some z =>
      obtain rfl : x7 = z := hR
      by_cases hz : c1 < x7
      · refine Ev.ite_pos hz ?_
        exact good (by simp [better, h0, hz])
      · refine Ev.ite_neg hz ?_
        exact bad (by simp [better, h0]; omega)
  · refine Ev.ite_neg h0 ?_
    exact bad (by simp [better, h0])

theorem psweep {s : List Int} (hs : s.length ≤ 1000000) {o : Nat} (ho : o ≤ 8) {st : Int} (hst : 1 ≤ st) (hst2 : st ≤ 8) {r : List Int × Int × Int} : ∀ (d i : Nat) (q : List Int × Option Int) (x7 : Int) (x9 : Bool), o - i = d → i ≤ o → q.1.length = o → Rp q.2 x7 x9 →
    (∀ y7 y9, Rp (sweep s st d i q).2 y7 y9 → Ev (fun k => predict_Search.l0 k s o y7 y9 (wrap64 (Int.tdiv st 2)) (sweep s st d i q).1 4) r) →
    Ev (fun k => predict_Search.l1 k s o x7 x9 st o i q.1 4) r := by
  intro d
  induction d with
  | zero =>
    intro i q x7 x9 hd hi hl hR next
    refine Ev.step (fun k => by rw [predict_Search.l1]) ?_
    refine Ev.ite_neg (by omega) ?_
    exact next _ _ hR
  | succ d ih =>
    intro i q x7 x9 hd hi hl hR next
    refine Ev.step (fun k => by rw [predict_Search.l1]) ?_
    refine Ev.ite_pos (by omega) ?_
    refine pmove hs (by omega) i (by omega) 0 (by omega) (by omega) hR (d := st) rfl ?_
    intro y7 y9 hR1
    have hl1 := move_len s q i st
    refine pmove hs (by omega) i (by omega) (0 + 1) (by omega) (by omega) hR1 (d := -st) (by show wrap64 (-st) = -st; exact w64 (by omega) (by omega)) ?_
    intro z7 z9 hR2
    refine Ev.step (fun k => by rw [predict_Search.l2]) ?_
    refine Ev.ite_neg (by omega) ?_
    rw [show wrap64 ((i : Int) + 1) = ((i + 1 : Nat) : Int) by rw [w64 (by omega) (by omega)]; omega]
    exact ih (i + 1) (two s q i st) z7 z9 (by omega) (by omega) (by rw [two_len]; exact hl) hR2 next

theorem rsweep {s : List Int} (hs : s.length ≤ 1000000) {o : Nat} (ho : o ≤ 8) {t : Nat} (ht : t < 4) {st : Int} (hst : rd [8, 4, 2, 1] (t : Int) = st) (hst1 : 1 ≤ st) (hst2 : st ≤ 8) {r : List Int × Int × Int} : ∀ (d i : Nat) (q : List Int × Option Int) (x7 : Int), o - i = d → i ≤ o → q.1.length = o → Rr q.2 x7 →
    (∀ y7, Rr (sweep s st d i q).2 y7 → Ev (fun k => shellacref07_DocSearch.l0 k s o y7 [8, 4, 2, 1] ((t + 1 : Nat) : Int) (sweep s st d i q).1 4) r) →
    Ev (fun k => shellacref07_DocSearch.l1 k s o x7 [8, 4, 2, 1] t i q.1 4) r := by
  intro d
  induction d with
  | zero =>
    intro i q x7 hd hi hl hR next
    refine Ev.step (fun k => by rw [shellacref07_DocSearch.l1]) ?_
    refine Ev.ite_neg (by omega) ?_
    rw [show wrap64 ((t : Int) + 1) = ((t + 1 : Nat) : Int) by rw [w64 (by omega) (by omega)]; omega]
    exact next _ hR
  | succ d ih =>
    intro i q x7 hd hi hl hR next
    refine Ev.step (fun k => by rw [shellacref07_DocSearch.l1]) ?_
    refine Ev.ite_pos (by omega) ?_
    refine rmove hs (by omega) i (by omega) 0 (by omega) (by omega) hR ht hst (d := st) (by
      rw [show wrap64 (1 - wrap64 (2 * 0)) = 1 by decide +kernel, Int.mul_one]; exact w64 (by omega) (by omega)) ?_
    intro y7 hR1
    have hl1 := move_len s q i st
    refine rmove hs (by omega) i (by omega) (0 + 1) (by omega) (by omega) hR1 ht hst (d := -st) (by
      rw [show wrap64 (1 - wrap64 (2 * (0 + 1))) = -1 by decide +kernel, w64 (by omega) (by omega)]; omega) ?_
    intro z7 hR2
    refine Ev.step (fun k => by rw [shellacref07_DocSearch.l2]) ?_
    refine Ev.ite_neg (by omega) ?_
    rw [show wrap64 ((i : Int) + 1) = ((i + 1 : Nat) : Int) by rw [w64 (by omega) (by omega)]; omega]
    exact ih (i + 1) (two s q i st) z7 (by omega) (by omega) (by rw [two_len]; exact hl) hR2 next

theorem pfour {s : List Int} (hs : s.length ≤ 1000000) {o : Nat} (ho : o ≤ 8) (q : List Int × Option Int) (hl : q.1.length = o) (x7 : Int) (x9 : Bool) (hR : Rp q.2 x7 x9) :
    Ev (fun k => predict_Search.l0 k s o x7 x9 8 q.1 4) ((four s o q).1, 4, 0) := by
  refine Ev.step (fun k => by rw [predict_Search.l0]) (Ev.ite_pos (by omega) ?_)
  refine psweep hs ho (by omega) (by omega) o 0 q x7 x9 (by omega) (by omega) hl hR ?_
  intro a1 b1 h1
  refine Ev.step (fun k => by rw [predict_Search.l0]) (Ev.ite_pos (by decide +kernel) ?_)
  have l1 := sweep_len s 8 o 0 q
  refine psweep hs ho (st := wrap64 (Int.tdiv 8 2)) (by decide +kernel) (by decide +kernel) o 0 _ a1 b1 (by omega) (by omega) (by omega) h1 ?_
  intro a2 b2 h2
  rw [show wrap64 (Int.tdiv 8 2) = 4 by decide +kernel] at *
  have l2 := sweep_len s 4 o 0 (sweep s 8 o 0 q)
  refine Ev.step (fun k => by rw [predict_Search.l0]) (Ev.ite_pos (by decide +kernel) ?_)
  refine psweep hs ho (st := wrap64 (Int.tdiv 4 2)) (by decide +kernel) (by decide +kernel) o 0 _ a2 b2 (by omega) (by omega) (by omega) h2 ?_
  intro a3 b3 h3
  rw [show wrap64 (Int.tdiv 4 2) = 2 by decide +kernel] at *
  have l3 := sweep_len s 2 o 0 (sweep s 4 o 0 (sweep s 8 o 0 q))
  refine Ev.step (fun k => by rw [predict_Search.l0]) (Ev.ite_pos (by decide +kernel) ?_)
  refine psweep hs ho (st := wrap64 (Int.tdiv 2 2)) (by decide +kernel) (by decide +kernel) o 0 _ a3 b3 (by omega) (by omega) (by omega) h3 ?_
  intro a4 b4 h4
  rw [show wrap64 (Int.tdiv 2 2) = 1 by decide +kernel] at *
  refine Ev.step (fun k => by rw [predict_Search.l0]) (Ev.ite_neg (by decide +kernel) ?_)
  exact Ev.now _

theorem rfour {s : List Int} (hs : s.length ≤ 1000000) {o : Nat} (ho : o ≤ 8) (q : List Int × Option Int) (hl : q.1.length = o) (x7 : Int) (hR : Rr q.2 x7) :
    Ev (fun k => shellacref07_DocSearch.l0 k s o x7 [8, 4, 2, 1] ((0 : Nat) : Int) q.1 4) ((four s o q).1, 4, 0) := by
  refine Ev.step (fun k => by rw [shellacref07_DocSearch.l0]) (Ev.ite_pos (by omega) ?_)
  refine rsweep hs ho (t := 0) (by omega) (st := 8) (by decide +kernel) (by omega) (by omega) o 0 q x7 (by omega) (by omega) hl hR ?_
  intro a1 h1
  have l1 := sweep_len s 8 o 0 q
  refine Ev.step (fun k => by rw [shellacref07_DocSearch.l0]) (Ev.ite_pos (by omega) ?_)
  refine rsweep hs ho (t := 1) (by omega) (st := 4) (by decide +kernel) (by omega) (by omega) o 0 _ a1 (by omega) (by omega) (by omega) h1 ?_
  intro a2 h2
  have l2 := sweep_len s 4 o 0 (sweep s 8 o 0 q)
  refine Ev.step (fun k => by rw [shellacref07_DocSearch.l0]) (Ev.ite_pos (by omega) ?_)
  refine rsweep hs ho (t := 2) (by omega) (st := 2) (by decide +kernel) (by omega) (by omega) o 0 _ a2 (by omega) (by omega) (by omega) h2 ?_
  intro a3 h3
  have l3 := sweep_len s 2 o 0 (sweep s 4 o 0 (sweep s 8 o 0 q))
  refine Ev.step (fun k => by rw [shellacref07_DocSearch.l0]) (Ev.ite_pos (by omega) ?_)
  refine rsweep hs ho (t := 3) (by omega) (st := 1) (by decide +kernel) (by omega) (by omega) o 0 _ a3 (by omega) (by omega) (by omega) h3 ?_
  intro a4 h4
  refine Ev.step (fun k => by rw [shellacref07_DocSearch.l0]) (Ev.ite_neg (by omega) ?_)
  exact Ev.now _

theorem search_ev (s : List Int) (a : Int) (hs : s.length ≤ 1000000) : Ev (fun k => predict_Search.f k s a) (searchAll s a) := by
  have low : Ev (fun k => predict_Search.j0 k s a true) (([] : List Int), (0 : Int), (1 : Int)) := by
    refine Ev.step (fun k => by rw [predict_Search.j0]) ?_
    exact Ev.ite_pos rfl (Ev.now _)
  unfold predict_Search.f searchAll
  by_cases h1 : a < 0
  · rw [if_pos h1]; exact Ev.ite_pos h1 low
  · rw [if_neg h1]; refine Ev.ite_neg h1 ?_
    by_cases h2 : a > 8
    · rw [if_pos h2]; exact Ev.ite_pos h2 low
    · rw [if_neg h2]; refine Ev.ite_neg h2 ?_
      by_cases h3 : (s.length : Int) < a
      · rw [if_pos h3, decide_eq_true h3]; exact low
      · rw [if_neg h3, decide_eq_false h3]
        refine Ev.step (fun k => by rw [predict_Search.j0]) ?_
        refine Ev.ite_neg (by decide) ?_
        refine Ev.cbind (show contains_wide.f s () = some (s.any wideB) from rfl) ?_
        by_cases h4 : s.any wideB = true
        · rw [if_pos h4]; exact Ev.ite_pos h4 (Ev.now _)
        · rw [if_neg h4]; refine Ev.ite_neg h4 ?_
          obtain ⟨o, rfl⟩ : ∃ o : Nat, a = o := ⟨a.toNat, by omega⟩
          have ho : o ≤ 8 := by omega
          rw [Int.toNat_natCast]
          refine Ev.bind (begin_ev o ho) ?_
          refine Ev.bind (cost_ev _ s 4 hs) ?_
          refine pfour hs ho (beginL o, first s (beginL o)) (begin_all o ho).2.2.1 _ _ ?_
          unfold first
          by_cases h5 : (costAll (beginL o) 4 s).2 = 0
          · rw [if_pos h5]
            exact ⟨by simp [h5], rfl⟩
          · rw [if_neg h5]
            show ((costAll (beginL o) 4 s).2 == 0) = false
            simp [h5]

theorem docsearch_ev (s : List Int) (a : Int) (hs : s.length ≤ 1000000) : Ev (fun k => shellacref07_DocSearch.f k s a) (searchAll s a) := by
  have low : Ev (fun k => shellacref07_DocSearch.j0 k s a true) (([] : List Int), (0 : Int), (1 : Int)) := by
    refine Ev.step (fun k => by rw [shellacref07_DocSearch.j0]) ?_
    exact Ev.ite_pos rfl (Ev.now _)
  unfold shellacref07_DocSearch.f searchAll
  by_cases h1 : a < 0
  · rw [if_pos h1]; exact Ev.ite_pos h1 low
  · rw [if_neg h1]; refine Ev.ite_neg h1 ?_
    by_cases h2 : a > 8
    · rw [if_pos h2]; exact Ev.ite_pos h2 low
    · rw [if_neg h2]; refine Ev.ite_neg h2 ?_
      by_cases h3 : (s.length : Int) < a
      · rw [if_pos h3, decide_eq_true h3]; exact low
      · rw [if_neg h3, decide_eq_false h3]
        refine Ev.step (fun k => by rw [shellacref07_DocSearch.j0]) ?_
        refine Ev.ite_neg (by decide) ?_
        refine Ev.bind (all_ev s hs) ?_
        by_cases h4 : s.any wideB = true
        · rw [if_pos h4]; exact Ev.ite_neg (by rw [h4]; decide) (Ev.now _)
        · rw [if_neg h4]; refine Ev.ite_pos (by simpa using h4) ?_
          obtain ⟨o, rfl⟩ : ∃ o : Nat, a = o := ⟨a.toNat, by omega⟩
          have ho : o ≤ 8 := by omega
          rw [Int.toNat_natCast]
          refine Ev.bind (docbegin_ev o ho) ?_
          refine Ev.bind (doccost_ev _ s 4 hs) ?_
          by_cases h5 : (costAll (beginL o) 4 s).2 = 0
          · refine Ev.ite_pos h5 ?_
            refine Ev.step (fun k => by rw [shellacref07_DocSearch.j1]) ?_
            refine rfour hs ho (beginL o, first s (beginL o)) (begin_all o ho).2.2.1 _ ?_
            unfold first
            rw [if_pos h5]; rfl
          · refine Ev.ite_neg h5 ?_
            refine Ev.step (fun k => by rw [shellacref07_DocSearch.j1]) ?_
            refine rfour hs ho (beginL o, first s (beginL o)) (begin_all o ho).2.2.1 _ ?_
            unfold first
            rw [if_neg h5]; rfl
end Go.Proofs.Ytbigfkfnlbfkhaa.MPred
