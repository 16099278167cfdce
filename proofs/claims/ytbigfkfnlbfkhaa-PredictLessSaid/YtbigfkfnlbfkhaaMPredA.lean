/- Plain law for layer 7, first part: what the printed functions of the prediction and the rest come to, in plain lists and numbers. -/
import Derived.Test.YtbigfkfnlbfkhaaGPredx1
namespace Go.Proofs.Ytbigfkfnlbfkhaa.MPred
open Go.RowKit Go.Proofs.YtbigfkfnlbfkhaaW.PrintWords Go.Proofs.YtbigfkfnlbfkhaaW.PrintMore Go.Proofs.Ytbigfkfnlbfkhaa.HPred Go.Proofs.Ytbigfkfnlbfkhaa.GPredF Go.Proofs.Ytbigfkfnlbfkhaa.GPred

theorem w64 {x : Int} (h0 : -9223372036854775808 ≤ x) (h1 : x < 9223372036854775808) : wrap64 x = x := by unfold wrap64; omega

theorem Ev.ite_pos {α : Type} {c : Prop} [Decidable c] {f g : Nat → Option α} {r : α} (hc : c) (h : Ev f r) : Ev (fun k => if c then f k else g k) r := by
  obtain ⟨K, h⟩ := h
  exact ⟨K, fun k hk => by show (if c then f k else g k) = some r; rw [if_pos hc]; exact h k hk⟩
theorem Ev.ite_neg {α : Type} {c : Prop} [Decidable c] {f g : Nat → Option α} {r : α} (hc : ¬ c) (h : Ev g r) : Ev (fun k => if c then f k else g k) r := by
  obtain ⟨K, h⟩ := h
  exact ⟨K, fun k hk => by show (if c then f k else g k) = some r; rw [if_neg hc]; exact h k hk⟩
theorem Ev.const {α : Type} {o : Option α} {r : α} (h : o = some r) : Ev (fun _ => o) r := ⟨0, fun _ _ => h⟩
theorem Ev.cbind {α β : Type} {o : Option α} {f : Nat → α → Option β} {a : α} {r : β} (h : o = some a) (k : Ev (fun n => f n a) r) : Ev (fun n => o.bind (f n)) r := by
  obtain ⟨K, k⟩ := k
  exact ⟨K, fun n hn => by rw [h]; exact k n hn⟩

/-- A number within the bounds of samples. -/
def Fits (x : Int) : Prop := -2147483648 < x ∧ x < 2147483648
def AllFit (l : List Int) : Prop := ∀ i : Nat, i < l.length → Fits (rd l i)
/-- A model's numbers. -/
structure Good (c : List Int) (sh : Int) : Prop where
  len : c.length ≤ 8
  lo : 0 ≤ sh
  hi : sh ≤ 15
  coef : ∀ i : Nat, i < c.length → -2048 ≤ rd c i ∧ rd c i ≤ 2047

theorem rd_nat (l : List Int) (i : Nat) (h : i < l.length) : rd l (i : Int) = l[i] := by
  simp [rd, List.getD_eq_getElem?_getD, List.getElem?_eq_getElem h]
theorem allFit_mem {l : List Int} (h : AllFit l) : ∀ x ∈ l, Fits x := by
  intro x hx
  obtain ⟨i, hi, rfl⟩ := List.getElem_of_mem hx
  have := h i hi
  rwa [rd_nat l i hi] at this
theorem allFit_of_mem {l : List Int} (h : ∀ x ∈ l, Fits x) : AllFit l := by
  intro i hi
  rw [rd_nat l i hi]
  exact h _ (List.getElem_mem hi)
theorem allFit_any {l : List Int} : AllFit l ↔ l.any wideB = false := by
  constructor
  · intro h
    rw [List.any_eq_false]
    intro x hx
    have := allFit_mem h x hx
    unfold Fits at this
    simp [wideB]; omega
  · intro h
    apply allFit_of_mem
    intro x hx
    have := List.any_eq_false.1 h x hx
    simp [wideB] at this
    unfold Fits; omega

/-- The sum of the first j products; n: the index that is predicted. -/
def dotAt (c l : List Int) (n : Int) : Nat → Int
  | 0 => 0
  | j + 1 => dotAt c l n j + rd c j * rd l (n - 1 - j)

theorem mul_bd {a b : Int} (ha : -2048 ≤ a ∧ a ≤ 2047) (hb : Fits b) : -4398046511104 ≤ a * b ∧ a * b ≤ 4398046511104 := by
  obtain ⟨h1, h2⟩ := ha
  obtain ⟨h3, h4⟩ := hb
  have e1 : (a + 2048) * (2147483648 - b) ≥ 0 := Int.mul_nonneg (by omega) (by omega)
  have e2 : (a + 2048) * (2147483648 + b) ≥ 0 := Int.mul_nonneg (by omega) (by omega)
  have e3 : (2048 - a) * (2147483648 - b) ≥ 0 := Int.mul_nonneg (by omega) (by omega)
  have e4 : (2048 - a) * (2147483648 + b) ≥ 0 := Int.mul_nonneg (by omega) (by omega)
  constructor <;> grind

theorem dot_bd {c l : List Int} {sh : Int} (g : Good c sh) (h : AllFit l) (n : Nat) (hn : n ≤ l.length) : ∀ j : Nat, j ≤ c.length → j ≤ n → -(4398046511104 * (j : Int)) ≤ dotAt c l n j ∧ dotAt c l n j ≤ 4398046511104 * (j : Int)
  | 0, _, _ => by simp [dotAt]
  | j + 1, hj, hjn => by
    have ih := dot_bd g h n hn j (by omega) (by omega)
    have hb := h (n - 1 - j) (by omega)
    rw [show ((n - 1 - j : Nat) : Int) = (n : Int) - 1 - j by omega] at hb
    have := mul_bd (g.coef j (by omega)) hb
    simp only [dotAt]
    omega

def prd (c : List Int) (sh : Int) (l : List Int) (n : Int) : Int := dotAt c l n c.length / 2 ^ sh.toNat

theorem dotAt_take (c l : List Int) (n : Nat) (hn : n ≤ l.length) : ∀ j, j ≤ n → dotAt c (l.take n) n j = dotAt c l n j
  | 0, _ => rfl
  | j + 1, hj => by
    simp only [dotAt]
    rw [dotAt_take c l n hn j (by omega)]
    have e : (n : Int) - 1 - j = ((n - 1 - j : Nat) : Int) := by omega
    rw [e, rd_nat (l.take n) (n - 1 - j) (by rw [List.length_take]; omega), rd_nat l (n - 1 - j) (by omega), List.getElem_take]

theorem div_bd (x : Int) (n : Nat) (h0 : -35184372088832 ≤ x) (h1 : x ≤ 35184372088832) : -35184372088832 ≤ x / 2 ^ n ∧ x / 2 ^ n ≤ 35184372088832 := by
  have hp : (0 : Int) < 2 ^ n := Int.pow_pos (by omega)
  have hp1 : (1 : Int) ≤ 2 ^ n := by omega
  constructor
  · rw [Int.le_ediv_iff_mul_le hp]
    have : (35184372088832 : Int) * (2 ^ n - 1) ≥ 0 := Int.mul_nonneg (by omega) (by omega)
    grind
  · rcases Int.le_total 0 x with hx | hx
    · exact Int.le_trans (Int.ediv_le_self _ hx) h1
    · have := Int.ediv_le_ediv hp hx
      simp at this
      omega

theorem prd_bd {c l : List Int} {sh : Int} (g : Good c sh) (h : AllFit l) (n : Nat) (hn : n ≤ l.length) (hc : c.length ≤ n) : -35184372088832 ≤ prd c sh l n ∧ prd c sh l n ≤ 35184372088832 := by
  have h1 := dot_bd g h n hn c.length (Nat.le_refl _) hc
  have h2 := g.len
  exact div_bd _ _ (by omega) (by omega)

/-- The program's prediction. -/
theorem predict_ev {c l : List Int} {sh : Int} (g : Good c sh) (h : AllFit l) (hlen : l.length ≤ 1000000) (hc : c.length ≤ l.length) :
    Ev (fun k => predict_Model_predict.f k c sh l) (prd c sh l l.length) := by
  have main : ∀ d j : Nat, c.length - j = d → j ≤ c.length → ∃ K, ∀ k, K ≤ k → predict_Model_predict.l0 k l (dotAt c l l.length j) c (c.length : Int) j c sh = some (prd c sh l l.length) := by
    intro d
    induction d with
    | zero =>
      intro j hd hj
      refine ⟨1, fun k hk => ?_⟩
      obtain ⟨k, rfl⟩ : ∃ m, k = m + 1 := ⟨k - 1, by omega⟩
      simp only [predict_Model_predict.l0]
      rw [if_neg (by omega), if_pos g.lo]
      obtain rfl : j = c.length := by omega
      unfold prd shr
      rw [Nat.min_eq_left (by have := g.hi; have := g.lo; show sh.toNat ≤ 64; omega)]
    | succ d ih =>
      intro j hd hj
      obtain ⟨K, hK⟩ := ih (j + 1) (by omega) (by omega)
      refine ⟨K + 1, fun k hk => ?_⟩
      obtain ⟨k, rfl⟩ : ∃ m, k = m + 1 := ⟨k - 1, by omega⟩
      simp only [predict_Model_predict.l0]
      have hlt : j < c.length := by omega
      have c1 : (j : Int) < (c.length : Int) := by omega
      have c2 : (0 : Int) ≤ (j : Int) := by omega
      have c3 : (0 : Int) ≤ (l.length : Int) - 1 - j := by omega
      have c4 : (l.length : Int) - 1 - j < (l.length : Int) := by omega
      have e1 : wrap64 ((l.length : Int) - 1) = (l.length : Int) - 1 := w64 (by omega) (by omega)
      have e2 : wrap64 ((l.length : Int) - 1 - (j : Int)) = (l.length : Int) - 1 - j := w64 (by omega) (by omega)
      have hb := h (l.length - 1 - j) (by omega)
      rw [show ((l.length - 1 - j : Nat) : Int) = (l.length : Int) - 1 - j by omega] at hb
      have hm := mul_bd (g.coef j hlt) hb
      have e3 : wrap64 (rd c (j : Int) * rd l ((l.length : Int) - 1 - j)) = rd c (j : Int) * rd l ((l.length : Int) - 1 - j) := w64 (by omega) (by omega)
      have hd1 := dot_bd g h l.length (Nat.le_refl _) (j + 1) (by omega) (by omega)
      have h8 := g.len
      have e4 : wrap64 (dotAt c l l.length j + rd c (j : Int) * rd l ((l.length : Int) - 1 - j)) = dotAt c l l.length (j + 1) := by
        simp only [dotAt] at hd1 ⊢
        exact w64 (by omega) (by omega)
      have e5 : wrap64 ((j : Int) + 1) = ((j + 1 : Nat) : Int) := by rw [w64 (by omega) (by omega)]; omega
      have hk' := hK k (by omega)
      rw [if_pos c1, if_pos c2, if_pos c1, e1, e2, if_pos c3, if_pos c4, e3, e4, e5]
      exact hk'
  obtain ⟨K, hK⟩ := main c.length 0 (by omega) (by omega)
  exact ⟨K, fun k hk => hK k hk⟩

end Go.Proofs.Ytbigfkfnlbfkhaa.MPred
