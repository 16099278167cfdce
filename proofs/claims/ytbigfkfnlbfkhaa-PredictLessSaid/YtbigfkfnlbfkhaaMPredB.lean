/- Plain law for layer 7, second part: Check, Right, all, the reference's prediction, Residual of both, Cost of both. -/
import Derived.Test.YtbigfkfnlbfkhaaMPredA
import Derived.Test.YtbigfkfnlbfkhaaGPredx4
namespace Go.Proofs.Ytbigfkfnlbfkhaa.MPred
open Go.RowKit Go.Proofs.YtbigfkfnlbfkhaaW.PrintWords Go.Proofs.YtbigfkfnlbfkhaaW.PrintMore Go.Proofs.Ytbigfkfnlbfkhaa.HPred Go.Proofs.Ytbigfkfnlbfkhaa.GPredF Go.Proofs.Ytbigfkfnlbfkhaa.GPred

def goodB (c : List Int) (sh : Int) : Bool := decide (c.length ≤ 8) && (decide (0 ≤ sh) && (decide (sh ≤ 15) && !c.any oddB))
theorem good_iff {c : List Int} {sh : Int} : goodB c sh = true ↔ Good c sh := by
  unfold goodB
  simp only [Bool.and_eq_true, decide_eq_true_eq, Bool.not_eq_true', List.any_eq_false]
  constructor
  · rintro ⟨h1, h2, h3, h4⟩
    refine ⟨h1, h2, h3, fun i hi => ?_⟩
    have := h4 _ (List.getElem_mem hi)
    rw [rd_nat c i hi]
    simp [oddB] at this
    omega
  · rintro ⟨h1, h2, h3, h4⟩
    refine ⟨h1, h2, h3, fun x hx => ?_⟩
    obtain ⟨i, hi, rfl⟩ := List.getElem_of_mem hx
    have := h4 i hi
    rw [rd_nat c i hi] at this
    simp [oddB]
    omega

theorem check_eq (c : List Int) (sh : Int) : predict_Check.f c sh = some (if goodB c sh = true then 0 else 2) := by
  unfold predict_Check.f contains_odd.f goodB
  by_cases h1 : (c.length : Int) > 8
  · rw [if_pos h1]
    have : ¬ c.length ≤ 8 := by omega
    simp [this]
  · rw [if_neg h1]
    have e1 : c.length ≤ 8 := by omega
    by_cases h2 : sh < 0
    · rw [if_pos h2]
      have : ¬ 0 ≤ sh := by omega
      simp [this]
    · rw [if_neg h2]
      have e2 : 0 ≤ sh := by omega
      by_cases h3 : sh > 15
      · rw [if_pos h3]
        have : ¬ sh ≤ 15 := by omega
        simp [this]
      · rw [if_neg h3]
        have e3 : sh ≤ 15 := by omega
        simp only [Option.bind_some]
        cases h4 : c.any oddB <;> simp [e1, e2, e3]

theorem right_ev (c : List Int) (sh : Int) : Ev (fun k => shellacref07_Right.f k c sh) (goodB c sh) := by
  have hj : Ev (fun k => shellacref07_Right.j0 k true c sh) false := ⟨1, fun k hk => by
    obtain ⟨k, rfl⟩ : ∃ m, k = m + 1 := ⟨k - 1, by omega⟩
    simp only [shellacref07_Right.j0, if_true]⟩
  unfold shellacref07_Right.f goodB
  by_cases h1 : (c.length : Int) > 8
  · have : ¬ c.length ≤ 8 := by omega
    refine Ev.ite_pos h1 ?_
    simpa [this] using hj
  · refine Ev.ite_neg h1 ?_
    have e1 : c.length ≤ 8 := by omega
    by_cases h2 : sh < 0
    · have : ¬ 0 ≤ sh := by omega
      refine Ev.ite_pos h2 ?_
      simpa [this] using hj
    · refine Ev.ite_neg h2 ?_
      have e2 : 0 ≤ sh := by omega
      by_cases h3 : sh > 15
      · have : ¬ sh ≤ 15 := by omega
        simpa [this, h3] using hj
      · have e3 : sh ≤ 15 := by omega
        have main : ∀ d i : Nat, c.length - i = d → i ≤ c.length → (∀ x ∈ c.take i, oddB x = false) → ∃ K, ∀ k, K ≤ k → shellacref07_Right.l0 k i c sh = some (!c.any oddB) := by
          intro d
          induction d with
          | zero =>
            intro i hd hi ht
            refine ⟨1, fun k hk => ?_⟩
            obtain ⟨k, rfl⟩ : ∃ m, k = m + 1 := ⟨k - 1, by omega⟩
            have c1 : ¬ (i : Int) < (c.length : Int) := by omega
            simp only [shellacref07_Right.l0]
            rw [if_neg c1]
            rw [List.take_of_length_le (by omega)] at ht
            have : c.any oddB = false := by rw [List.any_eq_false]; exact fun x hx => by rw [ht x hx]; simp
            rw [this]; rfl
          | succ d ih =>
            intro i hd hi ht
            have hlt : i < c.length := by omega
            have c1 : (i : Int) < (c.length : Int) := by omega
            have c2 : (0 : Int) ≤ (i : Int) := by omega
            have er := rd_nat c i hlt
            by_cases ho : oddB (rd c i) = true
            · refine ⟨1, fun k hk => ?_⟩
              obtain ⟨k, rfl⟩ : ∃ m, k = m + 1 := ⟨k - 1, by omega⟩
              simp only [shellacref07_Right.l0]
              rw [if_pos c1, if_pos c2]
              have ha : c.any oddB = true := by
                rw [List.any_eq_true]; exact ⟨c[i], List.getElem_mem hlt, by rw [← er]; exact ho⟩
              rw [ha]
              simp [oddB] at ho
              by_cases hl : rd c i < -2048
              · rw [if_pos hl]; rfl
              · rw [if_neg hl, if_pos (by omega)]; rfl
            · have ho' : oddB (rd c i) = false := by simpa using ho
              obtain ⟨K, hK⟩ := ih (i + 1) (by omega) (by omega) (by
                intro x hx
                rw [List.take_succ_eq_append_getElem hlt] at hx
                rcases List.mem_append.1 hx with hx | hx
                · exact ht x hx
                · rw [List.mem_singleton.1 hx, ← er]; exact ho')
              refine ⟨K + 1, fun k hk => ?_⟩
              obtain ⟨k, rfl⟩ : ∃ m, k = m + 1 := ⟨k - 1, by omega⟩
              have hk' := hK k (by omega)
              have e5 : wrap64 ((i : Int) + 1) = ((i + 1 : Nat) : Int) := by rw [w64 (by omega) (by omega)]; omega
              simp only [shellacref07_Right.l0]
              simp [oddB] at ho'
              rw [if_pos c1, if_pos c2, if_neg (by omega), if_neg (by omega), e5]
              exact hk'
        obtain ⟨K, hK⟩ := main c.length 0 (by omega) (by omega) (by simp)
        refine ⟨K + 1, fun k hk => ?_⟩
        obtain ⟨k, rfl⟩ : ∃ m, k = m + 1 := ⟨k - 1, by omega⟩
        have hk' := hK k (by omega)
        have e4 : decide (sh > 15) = false := by simpa using h3
        show shellacref07_Right.j0 (k + 1) (decide (sh > 15)) c sh = _
        rw [e4]
        simp only [shellacref07_Right.j0]
        simp only [e1, e2, e3, decide_true, Bool.true_and]
        simpa using hk'

theorem in_eq (x : Int) : shellacref07_in.f x = some (!wideB x) := by
  unfold shellacref07_in.f wideB
  by_cases h : x > -2147483648
  · rw [if_pos h]
    have : ¬ x ≤ -2147483648 := by omega
    by_cases h2 : x < 2147483648
    · have : ¬ 2147483648 ≤ x := by omega
      simp [*]
    · have : 2147483648 ≤ x := by omega
      simp [*]
  · rw [if_neg h]
    have : x ≤ -2147483648 := by omega
    simp [this]
theorem all_ev (l : List Int) (hlen : l.length ≤ 1000000) : Ev (fun k => shellacref07_all.f k l) (!l.any wideB) := by
  have main : ∀ d i : Nat, l.length - i = d → i ≤ l.length → (∀ x ∈ l.take i, wideB x = false) → ∃ K, ∀ k, K ≤ k → shellacref07_all.l0 k l i = some (!l.any wideB) := by
    intro d
    induction d with
    | zero =>
      intro i hd hi ht
      refine ⟨1, fun k hk => ?_⟩
      obtain ⟨k, rfl⟩ : ∃ m, k = m + 1 := ⟨k - 1, by omega⟩
      have c1 : ¬ (i : Int) < (l.length : Int) := by omega
      simp only [shellacref07_all.l0]
      rw [if_neg c1]
      rw [List.take_of_length_le (by omega)] at ht
      have : l.any wideB = false := by rw [List.any_eq_false]; exact fun x hx => by rw [ht x hx]; simp
      rw [this]; rfl
    | succ d ih =>
      intro i hd hi ht
      have hlt : i < l.length := by omega
      have c1 : (i : Int) < (l.length : Int) := by omega
      have c2 : (0 : Int) ≤ (i : Int) := by omega
      have er := rd_nat l i hlt
      have hin := in_eq (rd l i)
      cases ho : wideB (rd l i) with
      | true =>
        refine ⟨1, fun k hk => ?_⟩
        obtain ⟨k, rfl⟩ : ∃ m, k = m + 1 := ⟨k - 1, by omega⟩
        have ha : l.any wideB = true := by rw [List.any_eq_true]; exact ⟨l[i], List.getElem_mem hlt, by rw [← er]; exact ho⟩
        simp only [shellacref07_all.l0]
        rw [if_pos c1, if_pos c2, hin, ho, ha]
        simp
      | false =>
        obtain ⟨K, hK⟩ := ih (i + 1) (by omega) (by omega) (by
          intro x hx
          rw [List.take_succ_eq_append_getElem hlt] at hx
          rcases List.mem_append.1 hx with hx | hx
          · exact ht x hx
          · rw [List.mem_singleton.1 hx, ← er]; exact ho)
        refine ⟨K + 1, fun k hk => ?_⟩
        obtain ⟨k, rfl⟩ : ∃ m, k = m + 1 := ⟨k - 1, by omega⟩
        have hk' := hK k (by omega)
        have e5 : wrap64 ((i : Int) + 1) = ((i + 1 : Nat) : Int) := by rw [w64 (by omega) (by omega)]; omega
        simp only [shellacref07_all.l0]
        rw [if_pos c1, if_pos c2, hin, ho, e5]
        simpa using hk'
  obtain ⟨K, hK⟩ := main l.length 0 (by omega) (by omega) (by simp)
  exact ⟨K, fun k hk => hK k hk⟩

theorem wide_eq (x : Int) : predict_wide.f x = some (wideB x) := by
  unfold predict_wide.f wideB
  by_cases h : x ≤ -2147483648
  · rw [if_pos h]; simp [h]
  · rw [if_neg h]; simp [h]

theorem pow_small (sh : Int) (h0 : 0 ≤ sh) (h1 : sh ≤ 15) : shl .i64 1 sh = 2 ^ sh.toNat ∧ (2 : Int) ^ sh.toNat ≤ 32768 := by
  obtain ⟨n, rfl⟩ := Int.eq_ofNat_of_zero_le h0
  have : n ≤ 15 := by omega
  have key : ∀ m : Fin 16, shl .i64 1 ((m.val : Nat) : Int) = 2 ^ m.val ∧ (2 : Int) ^ m.val ≤ 32768 := by decide +kernel
  simpa using key ⟨n, by omega⟩
theorem floor_eq (x sh : Int) (h0 : 0 ≤ sh) (h1 : sh ≤ 15) (hx : -35184372088832 ≤ x) (hx2 : x ≤ 35184372088832) : shellacref07_floor.f x sh = some (x / 2 ^ sh.toNat) := by
  obtain ⟨e, hle⟩ := pow_small sh h0 h1
  have hp : (0 : Int) < 2 ^ sh.toNat := Int.pow_pos (by omega)
  have hb := div_bd x sh.toNat hx hx2
  unfold shellacref07_floor.f
  rw [if_pos h0, e, if_neg (by omega)]
  generalize (2 : Int) ^ sh.toNat = p at *
  have ht := Int.mul_tdiv_add_tmod x p
  have he := Int.mul_ediv_add_emod x p
  have hm1 := Int.emod_nonneg x (show p ≠ 0 by omega)
  have hm2 := Int.emod_lt_of_pos x hp
  rcases Int.le_total 0 x with hx0 | hx0
  · have t1 : x.tmod p = x % p := Int.tmod_eq_emod_of_nonneg hx0
    have t2 : x.tdiv p = x / p := Int.tdiv_eq_ediv_of_nonneg hx0
    rw [t1, t2, if_neg (by omega), w64 (by omega) (by omega)]
  · have t3 : x.tmod p ≤ 0 := by
      have h1 := Int.tmod_nonneg p (show 0 ≤ -x by omega)
      rw [Int.neg_tmod] at h1
      omega
    have t4 : -p < x.tmod p := by
      have := Int.lt_tmod_of_pos x hp
      omega
    by_cases hz : x.tmod p < 0
    · rw [if_pos hz]
      have key : x.tdiv p = x / p + 1 := by
        have a1 : p * (x.tdiv p - x / p) = x % p - x.tmod p := by grind
        have a2 : p * (x.tdiv p - x / p) < p * 2 := by omega
        have a3 : p * 0 < p * (x.tdiv p - x / p) := by omega
        have := Int.lt_of_mul_lt_mul_left a2 (by omega)
        have := Int.lt_of_mul_lt_mul_left a3 (by omega)
        omega
      have e1 : wrap64 (x / p + 1) = x / p + 1 := w64 (by omega) (by omega)
      have e2 : wrap64 (x / p + 1 - 1) = x / p := by rw [w64 (by omega) (by omega)]; omega
      rw [key, e1, e2]
    · rw [if_neg hz]
      have key : x.tdiv p = x / p := by
        have a1 : p * (x.tdiv p - x / p) = x % p - x.tmod p := by grind
        have a2 : p * (x.tdiv p - x / p) < p * 1 := by omega
        have a3 : p * (-1) < p * (x.tdiv p - x / p) := by omega
        have := Int.lt_of_mul_lt_mul_left a2 (by omega)
        have := Int.lt_of_mul_lt_mul_left a3 (by omega)
        omega
      rw [key, w64 (by omega) (by omega)]

/-- The reference's prediction. -/
theorem docpredict_ev {c l : List Int} {sh : Int} (g : Good c sh) (h : AllFit l) (n : Nat) (hlen : l.length ≤ 1000000) (hn : n ≤ l.length) (hc : c.length ≤ n) :
    Ev (fun k => shellacref07_predict.f k c sh l n) (prd c sh l n) := by
  have main : ∀ d j : Nat, c.length - j = d → j ≤ c.length → ∃ K, ∀ k, K ≤ k → shellacref07_predict.l0 k l n (dotAt c l n j) j c sh = some (prd c sh l n) := by
    intro d
    induction d with
    | zero =>
      intro j hd hj
      refine ⟨1, fun k hk => ?_⟩
      obtain ⟨k, rfl⟩ : ∃ m, k = m + 1 := ⟨k - 1, by omega⟩
      have c1 : ¬ (j : Int) < (c.length : Int) := by omega
      obtain rfl : j = c.length := by omega
      have hb := dot_bd g h n hn c.length (Nat.le_refl _) hc
      have h8 := g.len
      simp only [shellacref07_predict.l0]
      rw [if_neg c1, floor_eq _ _ g.lo g.hi (by omega) (by omega)]
      rfl
    | succ d ih =>
      intro j hd hj
      obtain ⟨K, hK⟩ := ih (j + 1) (by omega) (by omega)
      refine ⟨K + 1, fun k hk => ?_⟩
      obtain ⟨k, rfl⟩ : ∃ m, k = m + 1 := ⟨k - 1, by omega⟩
      simp only [shellacref07_predict.l0]
      have hlt : j < c.length := by omega
      have c1 : (j : Int) < (c.length : Int) := by omega
      have c2 : (0 : Int) ≤ (j : Int) := by omega
      have c3 : (0 : Int) ≤ (n : Int) - 1 - j := by omega
      have c4 : (n : Int) - 1 - j < (l.length : Int) := by omega
      have e1 : wrap64 ((n : Int) - 1) = (n : Int) - 1 := w64 (by omega) (by omega)
      have e2 : wrap64 ((n : Int) - 1 - (j : Int)) = (n : Int) - 1 - j := w64 (by omega) (by omega)
      have hb := h (n - 1 - j) (by omega)
      rw [show ((n - 1 - j : Nat) : Int) = (n : Int) - 1 - j by omega] at hb
      have hm := mul_bd (g.coef j hlt) hb
      have e3 : wrap64 (rd c (j : Int) * rd l ((n : Int) - 1 - j)) = rd c (j : Int) * rd l ((n : Int) - 1 - j) := w64 (by omega) (by omega)
      have hd1 := dot_bd g h n hn (j + 1) (by omega) (by omega)
      have h8 := g.len
      have e4 : wrap64 (dotAt c l n j + rd c (j : Int) * rd l ((n : Int) - 1 - j)) = dotAt c l n (j + 1) := by
        simp only [dotAt] at hd1 ⊢
        exact w64 (by omega) (by omega)
      have e5 : wrap64 ((j : Int) + 1) = ((j + 1 : Nat) : Int) := by rw [w64 (by omega) (by omega)]; omega
      have hk' := hK k (by omega)
      rw [if_pos c1, if_pos c2, e1, e2, if_pos c3, if_pos c4, e3, e4, e5]
      exact hk'
  obtain ⟨K, hK⟩ := main c.length 0 (by omega) (by omega)
  exact ⟨K, fun k hk => hK k hk⟩
end Go.Proofs.Ytbigfkfnlbfkhaa.MPred
