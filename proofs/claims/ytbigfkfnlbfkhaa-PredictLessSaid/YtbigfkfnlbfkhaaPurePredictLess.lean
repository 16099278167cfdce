/- PredictLess, the plain law: what a search finds costs no more than what it began with, and is a right model of the order and the shift. -/
import Derived.Test.YtbigfkfnlbfkhaaGPredUx2
import Derived.Test.YtbigfkfnlbfkhaaMSearch
namespace Go.Proofs.Ytbigfkfnlbfkhaa.Pure
open Go.RowKit Go.Proofs.Ytbigfkfnlbfkhaa.GPredT Go.Proofs.YtbigfkfnlbfkhaaW.PrintWords Go.Proofs.YtbigfkfnlbfkhaaW.PrintLast Go.Proofs.Ytbigfkfnlbfkhaa.MPred Go.Proofs.Ytbigfkfnlbfkhaa.GPred

theorem of_eq (c : List Int) (sh : Int) (h : c.length * 8 ≤ 140737488351232) : shellaclaw07_of.f c sh = some (c, sh) := by
  unfold shellaclaw07_of.f
  have e : wrap64 ((c.length : Int) + 2) = (c.length : Int) + 2 := w64 (by omega) (by omega)
  rw [e, if_pos (by omega), if_pos (by omega)]
  simp only [Option.bind_some, List.length_nil, List.nil_append]
  rw [if_pos (by omega)]

/-- What holds all through a search that began with m0. -/
structure Held (s m0 : List Int) (q : List Int × Option Int) : Prop where
  cost : ∀ x, q.2 = some x → costAll q.1 4 s = (x, 0)
  less : (costAll m0 4 s).2 = 0 → ∃ x, q.2 = some x ∧ x ≤ (costAll m0 4 s).1
  good : goodB q.1 4 = true

theorem cost_good {m s : List Int} (h : (costAll m 4 s).2 = 0) : goodB m 4 = true := good_iff.2 (resAll_ok h).2.2.2.1

theorem held_move {s m0 : List Int} {q : List Int × Option Int} (h : Held s m0 q) (i : Nat) (d : Int) : Held s m0 (MPred.move s q i d) := by
  unfold MPred.move
  by_cases hb : better q.2 (costAll (cand q.1 i d) 4 s) = true
  · rw [if_pos hb]
    have h0 : (costAll (cand q.1 i d) 4 s).2 = 0 := by
      unfold better at hb
      rw [Bool.and_eq_true, decide_eq_true_eq] at hb
      exact hb.1
    refine ⟨?_, ?_, cost_good h0⟩
    · intro x hx
      dsimp only at hx ⊢
      cases hx
      rw [← h0]
    · intro hc
      obtain ⟨x, hx, hle⟩ := h.less hc
      refine ⟨_, rfl, ?_⟩
      unfold better at hb
      rw [hx] at hb
      simp only [Bool.and_eq_true, decide_eq_true_eq] at hb
      omega
  · rw [if_neg hb]; exact h
theorem held_sweep {s m0 : List Int} (st : Int) : ∀ (d i : Nat) {q : List Int × Option Int}, Held s m0 q → Held s m0 (sweep s st d i q)
  | 0, _, _, h => h
  | d + 1, i, _, h => held_sweep st d (i + 1) (held_move (held_move h i st) i (-st))
theorem held_four {s m0 : List Int} (o : Nat) {q : List Int × Option Int} (h : Held s m0 q) : Held s m0 (four s o q) :=
  held_sweep 1 o 0 (held_sweep 2 o 0 (held_sweep 4 o 0 (held_sweep 8 o 0 h)))
theorem held_first {s m0 : List Int} (hg : goodB m0 4 = true) : Held s m0 (m0, first s m0) := by
  unfold first
  by_cases h : (costAll m0 4 s).2 = 0
  · rw [if_pos h]
    refine ⟨?_, fun _ => ⟨_, rfl, Int.le_refl _⟩, hg⟩
    intro x hx
    cases hx
    dsimp only
    rw [← h]
  · rw [if_neg h]
    exact ⟨fun x hx => by simp at hx, fun hc => absurd hc h, hg⟩

theorem PredictLess : shellaclaw07_PredictLess.Pure := by
  intro l0 a1 hl _ hwf hwf1
  apply Ev.rounds
  unfold shellaclaw07_PredictLess.f
  refine Ev.bind known_ev ?_
  obtain ⟨m0, m1, m2⟩ := mn_len l0 300 (by omega)
  have hcut := take_len l0 300 (by omega)
  refine Ev.ite_pos rfl (Ev.ite_pos m0 (Ev.ite_pos m1 ?_))
  generalize l0.take (mn (l0.length : Int) 300).toNat = s at *
  obtain ⟨o0, o1⟩ := mod_rng a1 9 (by omega) (by omega)
  generalize wrap64 (Int.tmod (IntKind.u64.wrap a1) 9) = a at *
  refine Ev.bind (search_ev s a (by omega)) ?_
  unfold searchAll
  rw [if_neg (show ¬ a < 0 by omega), if_neg (show ¬ a > 8 by omega)]
  by_cases h3 : (s.length : Int) < a
  · rw [if_pos h3]
    exact Ev.ite_neg (by decide) (Ev.now _)
  rw [if_neg h3]
  by_cases h4 : s.any HPred.wideB = true
  · rw [if_pos h4]
    exact Ev.ite_neg (by decide) (Ev.now _)
  rw [if_neg h4]
  obtain ⟨o, rfl⟩ : ∃ o : Nat, a = o := ⟨a.toNat, by omega⟩
  have ho : o ≤ 8 := by omega
  rw [Int.toNat_natCast]
  obtain ⟨_, _, lb, gb⟩ := begin_all o ho
  have H := held_four (s := s) o (held_first (s := s) gb)
  have hlen := four_len s o (beginL o, first s (beginL o))
  generalize four s o (beginL o, first s (beginL o)) = q at *
  dsimp only at *
  refine Ev.ite_pos rfl ?_
  refine Ev.bind (cost_ev _ s 4 (by omega)) ?_
  refine Ev.bind (docbegin_ev o ho) ?_
  refine Ev.cbind (of_eq _ _ (by dsimp only; omega)) ?_
  refine Ev.bind (cost_ev _ s 4 (by omega)) ?_
  refine Ev.cbind (check_eq _ _) ?_
  rw [H.good, if_pos rfl]
  refine Ev.ite_pos rfl (Ev.ite_pos (by omega) (Ev.ite_pos rfl ?_))
  by_cases hc : (costAll (beginL o) 4 s).2 = 0
  · refine Ev.ite_pos hc ?_
    obtain ⟨x, hx, hle⟩ := H.less hc
    have hq := H.cost x hx
    rw [hq]
    refine Ev.ite_pos rfl ?_
    exact Ev.const (by simp [hle])
  · exact Ev.ite_neg hc (Ev.now _)

end Go.Proofs.Ytbigfkfnlbfkhaa.Pure
