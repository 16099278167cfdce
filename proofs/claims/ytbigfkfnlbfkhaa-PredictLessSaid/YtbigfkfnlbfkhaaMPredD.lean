/- Plain law for layer 7, fourth part: the fixed models, 'known', the cut of samples. -/
import Derived.Test.YtbigfkfnlbfkhaaMPredC
namespace Go.Proofs.Ytbigfkfnlbfkhaa.MPred
open Go.RowKit Go.Proofs.YtbigfkfnlbfkhaaW.PrintWords Go.Proofs.YtbigfkfnlbfkhaaW.PrintMore Go.Proofs.Ytbigfkfnlbfkhaa.HPred Go.Proofs.Ytbigfkfnlbfkhaa.GPredF Go.Proofs.Ytbigfkfnlbfkhaa.GPred

theorem resAll_ok {c l : List Int} {sh : Int} (h : (resAll c sh l).2 = 0) : (resAll c sh l).1 = resTo c sh l (l.length - c.length) ∧ c.length ≤ l.length ∧ AllFit l ∧ Good c sh ∧ AllFit (resTo c sh l (l.length - c.length)) := by
  unfold resAll at h ⊢
  by_cases g1 : goodB c sh = true
  · rw [if_pos g1] at h ⊢
    by_cases l1 : l.length < c.length
    · rw [if_pos l1] at h; cases h
    · rw [if_neg l1] at h ⊢
      by_cases w : l.any wideB = true
      · rw [if_pos w] at h; cases h
      · rw [if_neg w] at h ⊢
        unfold resOut at h ⊢
        by_cases w1 : (resTo c sh l (l.length - c.length)).any wideB = true
        · rw [if_pos w1] at h; cases h
        · rw [if_neg w1]
          exact ⟨rfl, by omega, allFit_any.2 (by simpa using w), good_iff.1 g1, allFit_any.2 (by simpa using w1)⟩
  · rw [if_neg g1] at h; cases h

theorem known_ev : Ev (fun k => shellaclaw07_known.f k) true := by
  refine Ev.of (g := fun k => shellaclaw07_known.f k) (fun k => shellaclaw07_known.mono k) (k := 40) ?_
  decide +kernel
theorem fixed_ev {o : Int} {r : List Int × Int × Int} (h : predict_Fixed.f 40 o = some r) : Ev (fun k => predict_Fixed.f k o) r :=
  Ev.of (g := fun k => predict_Fixed.f k o) (fun k => predict_Fixed.mono o k) h
theorem fixed0 : predict_Fixed.f 40 0 = some ([], 0, 0) := by decide +kernel
theorem fixed1 : predict_Fixed.f 40 1 = some ([1], 0, 0) := by decide +kernel
theorem fixed2 : predict_Fixed.f 40 2 = some ([2, -1], 0, 0) := by decide +kernel
theorem fixed3 : predict_Fixed.f 40 3 = some ([3, -3, 1], 0, 0) := by decide +kernel
theorem fixed4 : predict_Fixed.f 40 4 = some ([4, -6, 4, -1], 0, 0) := by decide +kernel
theorem fixedLow {o : Int} (h : o < 0) : predict_Fixed.f 40 o = some ([], 0, 1) := by
  unfold predict_Fixed.f
  rw [if_pos h]
  simp only [predict_Fixed.j0, if_true]
theorem fixedHigh {o : Int} (h : 4 < o) : predict_Fixed.f 40 o = some ([], 0, 1) := by
  unfold predict_Fixed.f
  rw [if_neg (by omega), decide_eq_true (by omega)]
  simp only [predict_Fixed.j0, if_true]

theorem mod_rng (a n : Int) (h0 : 0 < n) (h1 : n < 9223372036854775807) : 0 ≤ wrap64 (Int.tmod (IntKind.u64.wrap a) n) ∧ wrap64 (Int.tmod (IntKind.u64.wrap a) n) < n := by
  have hu : 0 ≤ IntKind.u64.wrap a := by
    rw [IntKind.wrap_u64]
    exact Int.emod_nonneg _ (by omega)
  have ht : Int.tmod (IntKind.u64.wrap a) n = IntKind.u64.wrap a % n := Int.tmod_eq_emod_of_nonneg hu
  have h2 := Int.emod_nonneg (IntKind.u64.wrap a) (show n ≠ 0 by omega)
  have h3 := Int.emod_lt_of_pos (IntKind.u64.wrap a) h0
  rw [ht, w64 (by omega) (by omega)]
  exact ⟨h2, h3⟩

theorem mn_len (l : List Int) (n : Int) (hn : 0 ≤ n) : 0 ≤ mn (l.length : Int) n ∧ mn (l.length : Int) n ≤ (l.length : Int) ∧ mn (l.length : Int) n ≤ n := by
  unfold mn
  split <;> omega
theorem take_len (l : List Int) (n : Int) (hn : 0 ≤ n) : ((l.take (mn (l.length : Int) n).toNat).length : Int) ≤ n := by
  have := mn_len l n hn
  rw [List.length_take]
  omega

theorem prd0 (s : List Int) (n : Int) : prd [] 0 s n = 0 := by simp [prd, dotAt]
theorem prd1 (s : List Int) (n : Int) : prd [1] 0 s n = rd s (n - 1) := by simp [prd, dotAt, rd]
theorem prd2 (s : List Int) (n : Int) : prd [2, -1] 0 s n = 2 * rd s (n - 1) - rd s (n - 2) := by
  simp only [prd, dotAt, List.length_cons, List.length_nil]
  rw [show n - 1 - ((0 : Nat) : Int) = n - 1 by omega, show n - 1 - ((0 + 1 : Nat) : Int) = n - 2 by omega]
  simp [rd]; omega
theorem prd3 (s : List Int) (n : Int) : prd [3, -3, 1] 0 s n = 3 * rd s (n - 1) - 3 * rd s (n - 2) + rd s (n - 3) := by
  simp only [prd, dotAt, List.length_cons, List.length_nil]
  rw [show n - 1 - ((0 : Nat) : Int) = n - 1 by omega, show n - 1 - ((0 + 1 : Nat) : Int) = n - 2 by omega, show n - 1 - ((0 + 1 + 1 : Nat) : Int) = n - 3 by omega]
  simp [rd]; omega
theorem prd4 (s : List Int) (n : Int) : prd [4, -6, 4, -1] 0 s n = 4 * rd s (n - 1) - 6 * rd s (n - 2) + 4 * rd s (n - 3) - rd s (n - 4) := by
  simp only [prd, dotAt, List.length_cons, List.length_nil]
  rw [show n - 1 - ((0 : Nat) : Int) = n - 1 by omega, show n - 1 - ((0 + 1 : Nat) : Int) = n - 2 by omega, show n - 1 - ((0 + 1 + 1 : Nat) : Int) = n - 3 by omega, show n - 1 - ((0 + 1 + 1 + 1 : Nat) : Int) = n - 4 by omega]
  simp [rd]; omega
end Go.Proofs.Ytbigfkfnlbfkhaa.MPred
