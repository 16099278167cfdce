/- Plain law for layer 7, third part: what is left (Residual of both), and how much (Cost of both). -/
import Derived.Test.YtbigfkfnlbfkhaaMPredB
import Derived.Test.YtbigfkfnlbfkhaaGPredx2
import Derived.Test.YtbigfkfnlbfkhaaGPredx5
namespace Go.Proofs.Ytbigfkfnlbfkhaa.MPred
open Go.RowKit Go.Proofs.YtbigfkfnlbfkhaaW.PrintWords Go.Proofs.YtbigfkfnlbfkhaaW.PrintMore Go.Proofs.Ytbigfkfnlbfkhaa.HPred Go.Proofs.Ytbigfkfnlbfkhaa.GPredF Go.Proofs.Ytbigfkfnlbfkhaa.GPred

/-- What is left of the first t samples behind the first ones. -/
def resTo (c : List Int) (sh : Int) (l : List Int) (t : Nat) : List Int := (List.range t).map fun u => rd l (c.length + u : Nat) - prd c sh l (c.length + u : Nat)
theorem resTo_succ (c : List Int) (sh : Int) (l : List Int) (t : Nat) : resTo c sh l (t + 1) = resTo c sh l t ++ [rd l (c.length + t : Nat) - prd c sh l (c.length + t : Nat)] := by
  simp [resTo, List.range_succ]
theorem resTo_len (c : List Int) (sh : Int) (l : List Int) (t : Nat) : (resTo c sh l t).length = t := by simp [resTo]
theorem resTo_rd (c : List Int) (sh : Int) (l : List Int) (t u : Nat) (h : u < t) : rd (resTo c sh l t) u = rd l (c.length + u : Nat) - prd c sh l (c.length + u : Nat) := by
  rw [rd_nat _ _ (by rw [resTo_len]; exact h)]
  simp [resTo]
theorem resTo_mem (c : List Int) (sh : Int) (l : List Int) (t u : Nat) (h : u < t) : rd l (c.length + u : Nat) - prd c sh l (c.length + u : Nat) ∈ resTo c sh l t := by
  unfold resTo
  exact List.mem_map.2 ⟨u, List.mem_range.2 h, rfl⟩

/-- The answer, where model and samples are right. -/
def resOut (c : List Int) (sh : Int) (l : List Int) : List Int × Int :=
  if (resTo c sh l (l.length - c.length)).any wideB = true then ([], 12) else (resTo c sh l (l.length - c.length), 0)
/-- The answer. -/
def resAll (c : List Int) (sh : Int) (l : List Int) : List Int × Int :=
  if goodB c sh = true then (if l.length < c.length then ([], 1) else if l.any wideB = true then ([], 12) else resOut c sh l) else ([], 2)

theorem w64_sub {c l : List Int} {sh : Int} (g : Good c sh) (h : AllFit l) (n : Nat) (hn : n < l.length) (hc : c.length ≤ n) : wrap64 (rd l n - prd c sh l n) = rd l n - prd c sh l n := by
  have h1 := prd_bd g h n (by omega) hc
  have h2 := h n hn
  unfold Fits at h2
  exact w64 (by omega) (by omega)

theorem allFit_take {l : List Int} (h : AllFit l) (n : Nat) : AllFit (l.take n) := by
  apply allFit_of_mem
  exact fun x hx => allFit_mem h x (List.mem_of_mem_take hx)

theorem prd_take (c l : List Int) (sh : Int) (n : Nat) (hn : n ≤ l.length) (hc : c.length ≤ n) : prd c sh (l.take n) n = prd c sh l n := by
  unfold prd
  rw [dotAt_take c l n hn c.length hc]

attribute [local irreducible] prd dotAt

theorem residual_main {c l : List Int} {sh : Int} (g : Good c sh) (h : AllFit l) (hlen : l.length ≤ 1000000) (hc : c.length ≤ l.length) :
    Ev (fun k => predict_Residual.l0 k l [] (c.length : Int) c sh) (resOut c sh l) := by
  have main : ∀ d t : Nat, l.length - c.length - t = d → t ≤ l.length - c.length → (∀ x ∈ resTo c sh l t, wideB x = false) →
      ∃ K, ∀ k, K ≤ k → predict_Residual.l0 k l (resTo c sh l t) (c.length + t : Nat) c sh = some (resOut c sh l) := by
    intro d
    induction d with
    | zero =>
      intro t hd ht hf
      refine ⟨1, fun k hk => ?_⟩
      obtain ⟨k, rfl⟩ : ∃ m, k = m + 1 := ⟨k - 1, by omega⟩
      have c1 : ¬ ((c.length + t : Nat) : Int) < (l.length : Int) := by omega
      simp only [predict_Residual.l0]
      rw [if_neg c1]
      obtain rfl : t = l.length - c.length := by omega
      have : ¬ (resTo c sh l (l.length - c.length)).any wideB = true := by
        intro ha
        obtain ⟨x, hx, hw⟩ := List.any_eq_true.1 ha
        rw [hf x hx] at hw; cases hw
      unfold resOut
      rw [if_neg this]
    | succ d ih =>
      intro t hd ht hf
      have hlt : c.length + t < l.length := by omega
      have c1 : ((c.length + t : Nat) : Int) < (l.length : Int) := by omega
      have c2 : (0 : Int) ≤ ((c.length + t : Nat) : Int) := by omega
      have c3 : ((c.length + t : Nat) : Int) ≤ (l.length : Int) := by omega
      have c4 : (resTo c sh l t).length < 17592186044416 := by rw [resTo_len]; omega
      have e1 : (((c.length + t : Nat) : Int)).toNat = c.length + t := by omega
      have hp := predict_ev g (allFit_take h (c.length + t)) (by rw [List.length_take]; omega) (by rw [List.length_take]; omega)
      rw [List.length_take, Nat.min_eq_left (by omega), prd_take c l sh (c.length + t) (by omega) (by omega)] at hp
      obtain ⟨K1, hK1⟩ := hp
      dsimp only at hK1
      have e2 := Aside0.mk (w64_sub g h (c.length + t) hlt (by omega))
      have e5 : wrap64 (((c.length + t : Nat) : Int) + 1) = ((c.length + (t + 1) : Nat) : Int) := by rw [w64 (by omega) (by omega)]; omega
      cases hw : wideB (rd l (c.length + t : Nat) - prd c sh l (c.length + t : Nat)) with
      | true =>
        refine ⟨K1 + 1, fun k hk => ?_⟩
        obtain ⟨k, rfl⟩ : ∃ m, k = m + 1 := ⟨k - 1, by omega⟩
        have hk1 := hK1 k (by omega)
        simp only [predict_Residual.l0]
        rw [if_pos c1, if_pos c2, if_pos c3, e1, hk1]
        simp only [Option.bind_some]
        rw [e2.out, wide_eq, hw]
        simp only [Option.bind_some, if_true]
        unfold resOut
        rw [if_pos (List.any_eq_true.2 ⟨_, resTo_mem c sh l _ t (by omega), hw⟩)]
      | false =>
        obtain ⟨K2, hK2⟩ := ih (t + 1) (by omega) (by omega) (by
          intro x hx
          rw [resTo_succ] at hx
          rcases List.mem_append.1 hx with hx | hx
          · exact hf x hx
          · rw [List.mem_singleton.1 hx]; exact hw)
        refine ⟨K1 + K2 + 1, fun k hk => ?_⟩
        obtain ⟨k, rfl⟩ : ∃ m, k = m + 1 := ⟨k - 1, by omega⟩
        have hk1 := hK1 k (by omega)
        have hk2 := hK2 k (by omega)
        simp only [predict_Residual.l0]
        rw [if_pos c1, if_pos c2, if_pos c3, e1, hk1]
        simp only [Option.bind_some]
        rw [e2.out, wide_eq, hw]
        simp only [Option.bind_some, Bool.false_eq_true, if_false]
        rw [if_pos c4, e5, ← resTo_succ]
        exact hk2
  obtain ⟨K, hK⟩ := main _ 0 rfl (by omega) (by simp [resTo])
  exact ⟨K, fun k hk => hK k hk⟩

theorem residual_ev (c l : List Int) (sh : Int) (hlen : l.length ≤ 1000000) : Ev (fun k => predict_Residual.f k c sh l) (resAll c sh l) := by
  unfold predict_Residual.f resAll
  refine Ev.cbind (check_eq c sh) ?_
  by_cases hg : goodB c sh = true
  · rw [if_pos hg, if_pos hg]
    refine Ev.ite_pos rfl ?_
    by_cases hl : l.length < c.length
    · rw [if_pos hl]
      exact Ev.ite_pos (by omega) (Ev.now _)
    · rw [if_neg hl]
      refine Ev.ite_neg (by omega) ?_
      refine Ev.cbind (show contains_wide.f l () = some (l.any wideB) from rfl) ?_
      by_cases hw : l.any wideB = true
      · rw [if_pos hw]
        exact Ev.ite_pos hw (Ev.now _)
      · rw [if_neg hw]
        refine Ev.ite_neg hw ?_
        exact residual_main (good_iff.1 hg) (allFit_any.2 (by simpa using hw)) hlen (by omega)
  · rw [if_neg hg, if_neg hg]
    exact Ev.ite_neg (by decide) (Ev.now _)

theorem docresidual_main {c l : List Int} {sh : Int} (g : Good c sh) (h : AllFit l) (hlen : l.length ≤ 1000000) (hc : c.length ≤ l.length) :
    Ev (fun k => shellacref07_DocResidual.l0 k l [] (c.length : Int) c sh) (resOut c sh l) := by
  have main : ∀ d t : Nat, l.length - c.length - t = d → t ≤ l.length - c.length →
      ∃ K, ∀ k, K ≤ k → shellacref07_DocResidual.l0 k l (resTo c sh l t) (c.length + t : Nat) c sh = some (resOut c sh l) := by
    intro d
    induction d with
    | zero =>
      intro t hd ht
      obtain ⟨K, hK⟩ := all_ev (resTo c sh l t) (by rw [resTo_len]; omega)
      dsimp only at hK
      refine ⟨K + 1, fun k hk => ?_⟩
      obtain ⟨k, rfl⟩ : ∃ m, k = m + 1 := ⟨k - 1, by omega⟩
      have hk1 := hK k (by omega)
      have c1 : ¬ ((c.length + t : Nat) : Int) < (l.length : Int) := by omega
      simp only [shellacref07_DocResidual.l0]
      rw [if_neg c1, hk1]
      obtain rfl : t = l.length - c.length := by omega
      unfold resOut
      cases (resTo c sh l (l.length - c.length)).any wideB <;> rfl
    | succ d ih =>
      intro t hd ht
      have hlt : c.length + t < l.length := by omega
      have c1 : ((c.length + t : Nat) : Int) < (l.length : Int) := by omega
      have c2 : (0 : Int) ≤ ((c.length + t : Nat) : Int) := by omega
      have c4 : (resTo c sh l t).length < 17592186044416 := by rw [resTo_len]; omega
      obtain ⟨K1, hK1⟩ := docpredict_ev g h (c.length + t) hlen (by omega) (by omega)
      dsimp only at hK1
      have e2 := Aside0.mk (w64_sub g h (c.length + t) hlt (by omega))
      have e5 : wrap64 (((c.length + t : Nat) : Int) + 1) = ((c.length + (t + 1) : Nat) : Int) := by rw [w64 (by omega) (by omega)]; omega
      obtain ⟨K2, hK2⟩ := ih (t + 1) (by omega) (by omega)
      refine ⟨K1 + K2 + 1, fun k hk => ?_⟩
      obtain ⟨k, rfl⟩ : ∃ m, k = m + 1 := ⟨k - 1, by omega⟩
      have hk1 := hK1 k (by omega)
      have hk2 := hK2 k (by omega)
      simp only [shellacref07_DocResidual.l0]
      rw [if_pos c1, if_pos c2, hk1]
      simp only [Option.bind_some]
      rw [if_pos c4, e2.out, e5, ← resTo_succ]
      exact hk2
  obtain ⟨K, hK⟩ := main _ 0 rfl (by omega)
  exact ⟨K, fun k hk => hK k hk⟩

theorem docresidual_ev (c l : List Int) (sh : Int) (hlen : l.length ≤ 1000000) : Ev (fun k => shellacref07_DocResidual.f k c sh l) (resAll c sh l) := by
  unfold shellacref07_DocResidual.f resAll
  refine Ev.bind (right_ev c sh) ?_
  by_cases hg : goodB c sh = true
  · rw [if_pos hg]
    refine Ev.ite_pos hg ?_
    by_cases hl : l.length < c.length
    · rw [if_pos hl]
      exact Ev.ite_pos (by omega) (Ev.now _)
    · rw [if_neg hl]
      refine Ev.ite_neg (by omega) ?_
      refine Ev.bind (all_ev l hlen) ?_
      by_cases hw : l.any wideB = true
      · rw [if_pos hw]
        exact Ev.ite_neg (by rw [hw]; decide) (Ev.now _)
      · rw [if_neg hw]
        refine Ev.ite_pos (by simpa using hw) ?_
        exact docresidual_main (good_iff.1 hg) (allFit_any.2 (by simpa using hw)) hlen (by omega)
  · rw [if_neg hg]
    exact Ev.ite_neg hg (Ev.now _)

/-! Cost: the sum of the sizes. -/
def absI (x : Int) : Int := if x < -x then -x else x
def sumTo (l : List Int) : Nat → Int
  | 0 => 0
  | t + 1 => sumTo l t + absI (rd l t)
theorem sumTo_bd {l : List Int} (h : AllFit l) : ∀ t : Nat, t ≤ l.length → 0 ≤ sumTo l t ∧ sumTo l t ≤ 2147483648 * (t : Int)
  | 0, _ => by simp [sumTo]
  | t + 1, ht => by
    have ih := sumTo_bd h t (by omega)
    have hb := h t (by omega)
    unfold Fits at hb
    simp only [sumTo, absI]
    split <;> omega
theorem absStep {x s : Int} (hx : Fits x) (h0 : 0 ≤ s) (h1 : s ≤ 4611686018427387904) : wrap64 (s + mx x (wrap64 (-x))) = s + absI x := by
  unfold Fits at hx
  rw [w64 (x := -x) (by omega) (by omega)]
  unfold mx absI
  split <;> exact w64 (by omega) (by omega)
theorem resAll_fit (c l : List Int) (sh : Int) : AllFit (resAll c sh l).1 := by
  unfold resAll resOut
  split
  · split
    · exact allFit_of_mem (by simp)
    · split
      · exact allFit_of_mem (by simp)
      · split
        · exact allFit_of_mem (by simp)
        · rename_i h; exact allFit_any.2 (by simpa using h)
  · exact allFit_of_mem (by simp)
theorem resAll_len (c l : List Int) (sh : Int) : (resAll c sh l).1.length ≤ l.length := by
  unfold resAll resOut
  repeat' split
  all_goals simp [resTo_len]

def costAll (c : List Int) (sh : Int) (l : List Int) : Int × Int := (sumTo (resAll c sh l).1 (resAll c sh l).1.length, (resAll c sh l).2)

theorem doccost_ev (c l : List Int) (sh : Int) (hlen : l.length ≤ 1000000) : Ev (fun k => shellacref07_DocCost.f k c sh l) (costAll c sh l) := by
  unfold shellacref07_DocCost.f costAll
  refine Ev.bind (docresidual_ev c l sh hlen) ?_
  have hf := resAll_fit c l sh
  have hl := resAll_len c l sh
  generalize resAll c sh l = q at *
  obtain ⟨m, e⟩ := q
  dsimp only at *
  have main : ∀ d t : Nat, m.length - t = d → t ≤ m.length → ∃ K, ∀ k, K ≤ k → shellacref07_DocCost.l0 k m e (sumTo m t) t = some (sumTo m m.length, e) := by
    intro d
    induction d with
    | zero =>
      intro t hd ht
      refine ⟨1, fun k hk => ?_⟩
      obtain ⟨k, rfl⟩ : ∃ m, k = m + 1 := ⟨k - 1, by omega⟩
      have c1 : ¬ (t : Int) < (m.length : Int) := by omega
      simp only [shellacref07_DocCost.l0]
      rw [if_neg c1]
      obtain rfl : t = m.length := by omega
      rfl
    | succ d ih =>
      intro t hd ht
      have c1 : (t : Int) < (m.length : Int) := by omega
      have c2 : (0 : Int) ≤ (t : Int) := by omega
      have hb := sumTo_bd hf t (by omega)
      have e1 := absStep (hf t (by omega)) hb.1 (by omega)
      have e5 : wrap64 ((t : Int) + 1) = ((t + 1 : Nat) : Int) := by rw [w64 (by omega) (by omega)]; omega
      obtain ⟨K, hK⟩ := ih (t + 1) (by omega) (by omega)
      refine ⟨K + 1, fun k hk => ?_⟩
      obtain ⟨k, rfl⟩ : ∃ m, k = m + 1 := ⟨k - 1, by omega⟩
      have hk1 := hK k (by omega)
      simp only [shellacref07_DocCost.l0]
      rw [if_pos c1, if_pos c2, e1, e5]
      exact hk1
  obtain ⟨K, hK⟩ := main _ 0 rfl (by omega)
  exact ⟨K, fun k hk => hK k hk⟩

theorem cost_ev (c l : List Int) (sh : Int) (hlen : l.length ≤ 1000000) : Ev (fun k => predict_Cost.f k c sh l) (costAll c sh l) := by
  unfold predict_Cost.f costAll
  refine Ev.bind (residual_ev c l sh hlen) ?_
  have hf := resAll_fit c l sh
  have hl := resAll_len c l sh
  generalize resAll c sh l = q at *
  obtain ⟨m, e⟩ := q
  dsimp only at *
  have main : ∀ d t : Nat, m.length - t = d → t ≤ m.length → ∃ K, ∀ k, K ≤ k → predict_Cost.l0 k e (sumTo m t) m (m.length : Int) t = some (sumTo m m.length, e) := by
    intro d
    induction d with
    | zero =>
      intro t hd ht
      refine ⟨1, fun k hk => ?_⟩
      obtain ⟨k, rfl⟩ : ∃ m, k = m + 1 := ⟨k - 1, by omega⟩
      have c1 : ¬ (t : Int) < (m.length : Int) := by omega
      simp only [predict_Cost.l0]
      rw [if_neg c1]
      obtain rfl : t = m.length := by omega
      rfl
    | succ d ih =>
      intro t hd ht
      have c1 : (t : Int) < (m.length : Int) := by omega
      have c2 : (0 : Int) ≤ (t : Int) := by omega
      have hb := sumTo_bd hf t (by omega)
      have e1 := absStep (hf t (by omega)) hb.1 (by omega)
      have e5 : wrap64 ((t : Int) + 1) = ((t + 1 : Nat) : Int) := by rw [w64 (by omega) (by omega)]; omega
      obtain ⟨K, hK⟩ := ih (t + 1) (by omega) (by omega)
      refine ⟨K + 1, fun k hk => ?_⟩
      obtain ⟨k, rfl⟩ : ∃ m, k = m + 1 := ⟨k - 1, by omega⟩
      have hk1 := hK k (by omega)
      simp only [predict_Cost.l0]
      rw [if_pos c1, if_pos c2, if_pos c1, e1, e5]
      exact hk1
  obtain ⟨K, hK⟩ := main _ 0 rfl (by omega)
  exact ⟨K, fun k hk => hK k hk⟩

/-! Same. -/
theorem same_ev (a b : List Int) (hlen : a.length ≤ 2000000) : Ev (fun k => shellacref07_Same.f k a b) (decide (a = b)) := by
  unfold shellacref07_Same.f
  by_cases hl : a.length = b.length
  · refine Ev.ite_pos (by omega) ?_
    have main : ∀ d t : Nat, a.length - t = d → t ≤ a.length → (∀ i : Nat, i < t → rd a i = rd b i) → ∃ K, ∀ k, K ≤ k → shellacref07_Same.l0 k a b t = some (decide (a = b)) := by
      intro d
      induction d with
      | zero =>
        intro t hd ht he
        refine ⟨1, fun k hk => ?_⟩
        obtain ⟨k, rfl⟩ : ∃ m, k = m + 1 := ⟨k - 1, by omega⟩
        have c1 : ¬ (t : Int) < (a.length : Int) := by omega
        simp only [shellacref07_Same.l0]
        rw [if_neg c1]
        have : a = b := by
          apply List.ext_getElem hl
          intro i h1 h2
          have := he i (by omega)
          rwa [rd_nat a i h1, rd_nat b i h2] at this
        rw [decide_eq_true this]
      | succ d ih =>
        intro t hd ht he
        have c1 : (t : Int) < (a.length : Int) := by omega
        have c2 : (0 : Int) ≤ (t : Int) := by omega
        have c3 : (t : Int) < (b.length : Int) := by omega
        by_cases hr : rd a t = rd b t
        · have e5 : wrap64 ((t : Int) + 1) = ((t + 1 : Nat) : Int) := by rw [w64 (by omega) (by omega)]; omega
          obtain ⟨K, hK⟩ := ih (t + 1) (by omega) (by omega) (by
            intro i hi
            rcases Nat.lt_or_ge i t with h | h
            · exact he i h
            · rw [show i = t by omega]; exact hr)
          refine ⟨K + 1, fun k hk => ?_⟩
          obtain ⟨k, rfl⟩ : ∃ m, k = m + 1 := ⟨k - 1, by omega⟩
          have hk1 := hK k (by omega)
          simp only [shellacref07_Same.l0]
          rw [if_pos c1, if_pos c2, if_pos c3, if_pos hr, e5]
          exact hk1
        · refine ⟨1, fun k hk => ?_⟩
          obtain ⟨k, rfl⟩ : ∃ m, k = m + 1 := ⟨k - 1, by omega⟩
          simp only [shellacref07_Same.l0]
          rw [if_pos c1, if_pos c2, if_pos c3, if_neg hr]
          have : ¬ a = b := by rintro rfl; exact hr rfl
          rw [decide_eq_false this]
    obtain ⟨K, hK⟩ := main _ 0 rfl (by omega) (by intro i hi; omega)
    exact ⟨K, fun k hk => hK k hk⟩
  · refine Ev.ite_neg (by omega) ?_
    have : ¬ a = b := by rintro rfl; exact hl rfl
    rw [decide_eq_false this]
    exact Ev.now _
end Go.Proofs.Ytbigfkfnlbfkhaa.MPred
