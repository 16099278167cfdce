/- PredictLines, the plain law: of constant samples the first order leaves nothing, of those that rise evenly the second, of squares the third, of cubes the fourth; for all numbers. -/
import Derived.Test.YtbigfkfnlbfkhaaGPredx6
import Derived.Test.YtbigfkfnlbfkhaaMPredD
namespace Go.Proofs.Ytbigfkfnlbfkhaa.Pure
open Go.RowKit Go.Proofs.Ytbigfkfnlbfkhaa.GPred Go.Proofs.YtbigfkfnlbfkhaaW.PrintWords Go.Proofs.YtbigfkfnlbfkhaaW.PrintLast Go.Proofs.YtbigfkfnlbfkhaaW.PrintMore Go.Proofs.Ytbigfkfnlbfkhaa.GPredF Go.Proofs.Ytbigfkfnlbfkhaa.MPred Go.Proofs.Ytbigfkfnlbfkhaa.HPred

theorem mulb {x y X Y : Int} (h1 : -X ≤ x) (h2 : x ≤ X) (h3 : -Y ≤ y) (h4 : y ≤ Y) : -(X * Y) ≤ x * y ∧ x * y ≤ X * Y := by
  have e1 : (X - x) * (Y - y) ≥ 0 := Int.mul_nonneg (by omega) (by omega)
  have e2 : (X + x) * (Y + y) ≥ 0 := Int.mul_nonneg (by omega) (by omega)
  have e3 : (X - x) * (Y + y) ≥ 0 := Int.mul_nonneg (by omega) (by omega)
  have e4 : (X + x) * (Y - y) ≥ 0 := Int.mul_nonneg (by omega) (by omega)
  constructor <;> grind

/-- The sample at z. -/
def poly (a b : Int) : Nat → Int → Int
  | 1, _ => a
  | 2, z => a + b * z
  | 3, z => a + b * z + b * (z * z)
  | _, z => a + b * z + b * (z * z) + b * (z * z * z)

structure Small (a b : Int) : Prop where
  a0 : -1000 ≤ a
  a1 : a ≤ 1000
  b0 : -10 ≤ b
  b1 : b ≤ 10

theorem pows {z : Int} (h0 : 0 ≤ z) (h1 : z ≤ 64) : (-4096 ≤ z * z ∧ z * z ≤ 4096) ∧ (-262144 ≤ z * z * z ∧ z * z * z ≤ 262144) := by
  have e1 := mulb (x := z) (y := z) (X := 64) (Y := 64) (by omega) (by omega) (by omega) (by omega)
  have e2 := mulb (x := z * z) (y := z) (X := 4096) (Y := 64) (by omega) (by omega) (by omega) (by omega)
  omega
theorem terms {a b z : Int} (s : Small a b) (h0 : 0 ≤ z) (h1 : z ≤ 64) : (-640 ≤ b * z ∧ b * z ≤ 640) ∧ (-40960 ≤ b * (z * z) ∧ b * (z * z) ≤ 40960) ∧ (-2621440 ≤ b * (z * z * z) ∧ b * (z * z * z) ≤ 2621440) := by
  obtain ⟨p1, p2⟩ := pows h0 h1
  have s1 := s.b0
  have s2 := s.b1
  have e1 := mulb (x := b) (y := z) (X := 10) (Y := 64) (by omega) (by omega) (by omega) (by omega)
  have e2 := mulb (x := b) (y := z * z) (X := 10) (Y := 4096) (by omega) (by omega) (by omega) (by omega)
  have e3 := mulb (x := b) (y := z * z * z) (X := 10) (Y := 262144) (by omega) (by omega) (by omega) (by omega)
  omega
theorem poly_fits {a b z : Int} (s : Small a b) (h0 : 0 ≤ z) (h1 : z ≤ 64) (o : Nat) : Fits (poly a b o z) := by
  obtain ⟨t1, t2, t3⟩ := terms s h0 h1
  have s1 := s.a0
  have s2 := s.a1
  unfold Fits poly
  split <;> omega

/-- The wraps of one sample. -/
theorem wraps {a b z : Int} (s : Small a b) (h0 : 0 ≤ z) (h1 : z ≤ 64) :
    wrap64 (1 * z) = z ∧ wrap64 (z * z) = z * z ∧ wrap64 (z * z * z) = z * z * z ∧ wrap64 (b * z) = b * z ∧ wrap64 (b * (z * z)) = b * (z * z) ∧ wrap64 (b * (z * z * z)) = b * (z * z * z) ∧
    wrap64 (a + b * z) = a + b * z ∧ wrap64 (a + b * z + b * (z * z)) = a + b * z + b * (z * z) ∧ wrap64 (a + b * z + b * (z * z) + b * (z * z * z)) = a + b * z + b * (z * z) + b * (z * z * z) := by
  obtain ⟨t1, t2, t3⟩ := terms s h0 h1
  obtain ⟨p1, p2⟩ := pows h0 h1
  have s1 := s.a0
  have s2 := s.a1
  refine ⟨?_, ?_, ?_, ?_, ?_, ?_, ?_, ?_, ?_⟩
  · rw [Int.one_mul]; exact w64 (by omega) (by omega)
  all_goals exact w64 (by omega) (by omega)

theorem sample1 {a b : Int} (_s : Small a b) (cnt z : Int) (l : List Int) (_h0 : 0 ≤ z) (_h1 : z ≤ 64) (k : Nat) :
    shellaclaw07_PredictLines.l2 (k + 1) a b cnt 1 l z a 1 1 = if l.length < 17592186044416 then shellaclaw07_PredictLines.l1 k a b cnt 1 (l ++ [poly a b 1 z]) (wrap64 (z + 1)) else none := by
  simp only [shellaclaw07_PredictLines.l2]
  rw [if_neg (by omega)]
  rfl
theorem sample2 {a b : Int} (s : Small a b) (cnt z : Int) (l : List Int) (h0 : 0 ≤ z) (h1 : z ≤ 64) (k : Nat) :
    shellaclaw07_PredictLines.l2 (k + 2) a b cnt 2 l z a 1 1 = if l.length < 17592186044416 then shellaclaw07_PredictLines.l1 k a b cnt 2 (l ++ [poly a b 2 z]) (wrap64 (z + 1)) else none := by
  obtain ⟨w1, w2, w3, v1, v2, v3, u1, u2, u3⟩ := wraps s h0 h1
  have n1 : wrap64 (1 + 1) = 2 := by decide +kernel
  simp only [shellaclaw07_PredictLines.l2]
  rw [if_pos (by omega), w1, v1, u1, n1, if_neg (by omega)]
  rfl
theorem sample3 {a b : Int} (s : Small a b) (cnt z : Int) (l : List Int) (h0 : 0 ≤ z) (h1 : z ≤ 64) (k : Nat) :
    shellaclaw07_PredictLines.l2 (k + 3) a b cnt 3 l z a 1 1 = if l.length < 17592186044416 then shellaclaw07_PredictLines.l1 k a b cnt 3 (l ++ [poly a b 3 z]) (wrap64 (z + 1)) else none := by
  obtain ⟨w1, w2, w3, v1, v2, v3, u1, u2, u3⟩ := wraps s h0 h1
  have n1 : wrap64 (1 + 1) = 2 := by decide +kernel
  have n2 : wrap64 (2 + 1) = 3 := by decide +kernel
  simp only [shellaclaw07_PredictLines.l2]
  rw [if_pos (by omega), w1, v1, u1, n1, if_pos (by omega), w2, v2, u2, n2, if_neg (by omega)]
  rfl
theorem sample4 {a b : Int} (s : Small a b) (cnt z : Int) (l : List Int) (h0 : 0 ≤ z) (h1 : z ≤ 64) (k : Nat) :
    shellaclaw07_PredictLines.l2 (k + 4) a b cnt 4 l z a 1 1 = if l.length < 17592186044416 then shellaclaw07_PredictLines.l1 k a b cnt 4 (l ++ [poly a b 4 z]) (wrap64 (z + 1)) else none := by
  obtain ⟨w1, w2, w3, v1, v2, v3, u1, u2, u3⟩ := wraps s h0 h1
  have n1 : wrap64 (1 + 1) = 2 := by decide +kernel
  have n2 : wrap64 (2 + 1) = 3 := by decide +kernel
  have n3 : wrap64 (3 + 1) = 4 := by decide +kernel
  simp only [shellaclaw07_PredictLines.l2]
  rw [if_pos (by omega), w1, v1, u1, n1, if_pos (by omega), w2, v2, u2, n2, if_pos (by omega), w3, v3, u3, n3, if_neg (by omega)]
  rfl

def sound (a b : Int) (o : Nat) (t : Nat) : List Int := (List.range t).map fun u => poly a b o (u : Nat)
theorem sound_succ (a b : Int) (o t : Nat) : sound a b o (t + 1) = sound a b o t ++ [poly a b o (t : Nat)] := by simp [sound, List.range_succ]
theorem sound_len (a b : Int) (o t : Nat) : (sound a b o t).length = t := by simp [sound]
theorem sound_rd (a b : Int) (o t u : Nat) (h : u < t) : rd (sound a b o t) u = poly a b o u := by
  rw [rd_nat _ _ (by rw [sound_len]; exact h)]
  simp [sound]

theorem sum_zero {l : List Int} (h : ∀ i : Nat, i < l.length → rd l i = 0) : ∀ t : Nat, t ≤ l.length → sumTo l t = 0
  | 0, _ => rfl
  | t + 1, ht => by
    simp only [sumTo]
    rw [sum_zero h t (by omega), h t (by omega)]
    rfl

/-- One order's turn. -/
theorem turn {a b : Int} (s : Small a b) (cnt : Nat) (h5 : 5 ≤ cnt) (h64 : cnt ≤ 64) (o : Nat) (ho : 1 ≤ o) (ho4 : o ≤ 4) (c : List Int) (hfix : predict_Fixed.f 40 (o : Int) = some (c, 0, 0)) (hc : c.length = o) (hg : goodB c 0 = true)
    (hsample : ∀ (z : Int) (l : List Int), 0 ≤ z → z ≤ 64 → ∀ k, shellaclaw07_PredictLines.l2 (k + o) a b cnt o l z a 1 1 = if l.length < 17592186044416 then shellaclaw07_PredictLines.l1 k a b cnt o (l ++ [poly a b o z]) (wrap64 (z + 1)) else none)
    (hzero : ∀ (l : List Int) (n : Int), (∀ j : Nat, j ≤ o → rd l (n - j) = poly a b o (n - j)) → rd l n - prd c 0 l n = 0)
    (next : Ev (fun k => shellaclaw07_PredictLines.l0 k a b cnt (o + 1 : Nat)) true) : Ev (fun k => shellaclaw07_PredictLines.l0 k a b cnt (o : Nat)) true := by
  have hfit : AllFit (sound a b o cnt) := by
    intro i hi
    rw [sound_len] at hi
    rw [sound_rd a b o cnt i hi]
    exact poly_fits s (by omega) (by omega) o
  have hz : ∀ u : Nat, u < cnt - o → rd (sound a b o cnt) (o + u : Nat) - prd c 0 (sound a b o cnt) (o + u : Nat) = 0 := by
    intro u hu
    refine hzero _ _ ?_
    intro j hj
    rw [show ((o + u : Nat) : Int) - (j : Nat) = ((o + u - j : Nat) : Int) by omega]
    exact sound_rd a b o cnt (o + u - j) (by omega)
  have hres : resAll c 0 (sound a b o cnt) = (resTo c 0 (sound a b o cnt) (cnt - o), 0) := by
    unfold resAll resOut
    have hw := allFit_any.1 hfit
    have hw2 : (resTo c 0 (sound a b o cnt) (cnt - o)).any wideB = false := by
      apply allFit_any.1
      intro i hi
      rw [resTo_len] at hi
      rw [resTo_rd _ _ _ _ _ hi, hc, hz i hi]
      unfold Fits; omega
    rw [if_pos hg, sound_len, hc, if_neg (by omega), hw, if_neg (by simp), hw2, if_neg (by simp)]
  have hcost : costAll c 0 (sound a b o cnt) = (0, 0) := by
    unfold costAll
    rw [hres]
    have : sumTo (resTo c 0 (sound a b o cnt) (cnt - o)) (resTo c 0 (sound a b o cnt) (cnt - o)).length = 0 := by
      refine sum_zero (fun i hi => ?_) _ (Nat.le_refl _)
      rw [resTo_len] at hi
      rw [resTo_rd _ _ _ _ _ hi, hc]
      exact hz i hi
    rw [this]
  have last : Ev (fun k => shellaclaw07_PredictLines.l1 k a b cnt (o : Nat) (sound a b o cnt) cnt) true := by
    obtain ⟨K1, hK1⟩ := fixed_ev hfix
    obtain ⟨K2, hK2⟩ := cost_ev c (sound a b o cnt) 0 (by rw [sound_len]; omega)
    obtain ⟨K3, hK3⟩ := next
    dsimp only at hK1 hK2 hK3
    rw [hcost] at hK2
    refine ⟨K1 + K2 + K3 + 1, fun k hk => ?_⟩
    obtain ⟨k, rfl⟩ : ∃ m, k = m + 1 := ⟨k - 1, by omega⟩
    have k1 := hK1 k (by omega)
    have k2 := hK2 k (by omega)
    have k3 := hK3 k (by omega)
    have e5 : wrap64 ((o : Nat) + 1 : Int) = ((o + 1 : Nat) : Int) := by rw [w64 (by omega) (by omega)]; omega
    have c1 : ¬ (cnt : Int) < (cnt : Int) := by omega
    simp only [shellaclaw07_PredictLines.l1]
    rw [if_neg c1, k1]
    simp only [Option.bind_some]
    rw [k2]
    simp only [Option.bind_some]
    rw [if_pos trivial, if_pos trivial, if_pos trivial, e5]
    exact k3
  have main : ∀ d t : Nat, cnt - t = d → t ≤ cnt → Ev (fun k => shellaclaw07_PredictLines.l1 k a b cnt (o : Nat) (sound a b o t) (t : Nat)) true := by
    intro d
    induction d with
    | zero =>
      intro t hd ht
      obtain rfl : t = cnt := by omega
      exact last
    | succ d ih =>
      intro t hd ht
      obtain ⟨K, hK⟩ := ih (t + 1) (by omega) (by omega)
      dsimp only at hK
      refine ⟨K + o + 1, fun k hk => ?_⟩
      obtain ⟨k, rfl⟩ : ∃ m, k = m + o + 1 := ⟨k - o - 1, by omega⟩
      have k1 := hK k (by omega)
      have c1 : (t : Int) < (cnt : Int) := by omega
      have c2 : (sound a b o t).length < 17592186044416 := by rw [sound_len]; omega
      have hs := hsample (t : Nat) (sound a b o t) (by omega) (by omega) k
      have e5 : wrap64 ((t : Int) + 1) = ((t + 1 : Nat) : Int) := by rw [w64 (by omega) (by omega)]; omega
      rw [if_pos c2, e5, ← sound_succ] at hs
      simp only [shellaclaw07_PredictLines.l1]
      rw [if_pos c1, hs]
      exact k1
  obtain ⟨K, hK⟩ := main cnt 0 (by omega) (by omega)
  dsimp only at hK
  refine ⟨K + 1, fun k hk => ?_⟩
  obtain ⟨k, rfl⟩ : ∃ m, k = m + 1 := ⟨k - 1, by omega⟩
  have k1 := hK k (by omega)
  have c1 : ((o : Nat) : Int) ≤ 4 := by omega
  simp only [shellaclaw07_PredictLines.l0]
  rw [if_pos c1]
  exact k1

theorem zero1 (a b : Int) (l : List Int) (n : Int) (h : ∀ j : Nat, j ≤ 1 → rd l (n - j) = poly a b 1 (n - j)) : rd l n - prd [1] 0 l n = 0 := by
  have h0 := h 0 (by omega)
  have h1 := h 1 (by omega)
  rw [prd1]
  simp only [poly, Int.natCast_zero, Int.sub_zero, Int.natCast_one] at h0 h1
  omega
theorem zero2 (a b : Int) (l : List Int) (n : Int) (h : ∀ j : Nat, j ≤ 2 → rd l (n - j) = poly a b 2 (n - j)) : rd l n - prd [2, -1] 0 l n = 0 := by
  have h0 := h 0 (by omega)
  have h1 := h 1 (by omega)
  have h2 := h 2 (by omega)
  rw [prd2]
  have e1 : n - ((1 : Nat) : Int) = n - 1 := rfl
  have e2 : n - ((2 : Nat) : Int) = n - 2 := rfl
  rw [e1] at h1
  rw [e2] at h2
  simp only [poly, Int.natCast_zero, Int.sub_zero] at h0 h1 h2
  rw [h0, h1, h2]
  grind
theorem zero3 (a b : Int) (l : List Int) (n : Int) (h : ∀ j : Nat, j ≤ 3 → rd l (n - j) = poly a b 3 (n - j)) : rd l n - prd [3, -3, 1] 0 l n = 0 := by
  have h0 := h 0 (by omega)
  have h1 := h 1 (by omega)
  have h2 := h 2 (by omega)
  have h3 := h 3 (by omega)
  rw [prd3]
  have e1 : n - ((1 : Nat) : Int) = n - 1 := rfl
  have e2 : n - ((2 : Nat) : Int) = n - 2 := rfl
  have e3 : n - ((3 : Nat) : Int) = n - 3 := rfl
  rw [e1] at h1
  rw [e2] at h2
  rw [e3] at h3
  simp only [poly, Int.natCast_zero, Int.sub_zero] at h0 h1 h2 h3
  rw [h0, h1, h2, h3]
  grind
theorem zero4 (a b : Int) (l : List Int) (n : Int) (h : ∀ j : Nat, j ≤ 4 → rd l (n - j) = poly a b 4 (n - j)) : rd l n - prd [4, -6, 4, -1] 0 l n = 0 := by
  have h0 := h 0 (by omega)
  have h1 := h 1 (by omega)
  have h2 := h 2 (by omega)
  have h3 := h 3 (by omega)
  have h4 := h 4 (by omega)
  rw [prd4]
  have e1 : n - ((1 : Nat) : Int) = n - 1 := rfl
  have e2 : n - ((2 : Nat) : Int) = n - 2 := rfl
  have e3 : n - ((3 : Nat) : Int) = n - 3 := rfl
  have e4 : n - ((4 : Nat) : Int) = n - 4 := rfl
  rw [e1] at h1
  rw [e2] at h2
  rw [e3] at h3
  rw [e4] at h4
  simp only [poly, Int.natCast_zero, Int.sub_zero] at h0 h1 h2 h3 h4
  rw [h0, h1, h2, h3, h4]
  grind

theorem PredictLines : shellaclaw07_PredictLines.Pure := by
  intro a0 a1 a2 _ _ _
  refine Ev.rounds (g := fun k => shellaclaw07_PredictLines.f k a0 a1 a2) ?_
  unfold shellaclaw07_PredictLines.f
  refine Ev.bind known_ev (Ev.ite_pos rfl ?_)
  obtain ⟨p0, p1⟩ := mod_rng a0 2000 (by omega) (by omega)
  obtain ⟨q0, q1⟩ := mod_rng a1 20 (by omega) (by omega)
  obtain ⟨r0, r1⟩ := mod_rng a2 60 (by omega) (by omega)
  generalize wrap64 (Int.tmod (IntKind.u64.wrap a0) 2000) = x at *
  generalize wrap64 (Int.tmod (IntKind.u64.wrap a1) 20) = y at *
  generalize wrap64 (Int.tmod (IntKind.u64.wrap a2) 60) = z at *
  have e1 : wrap64 (x - 1000) = x - 1000 := w64 (by omega) (by omega)
  have e2 : wrap64 (y - 10) = y - 10 := w64 (by omega) (by omega)
  have e3 : wrap64 (5 + z) = ((5 + z.toNat : Nat) : Int) := by rw [w64 (by omega) (by omega)]; omega
  rw [e1, e2, e3]
  have s : Small (x - 1000) (y - 10) := ⟨by omega, by omega, by omega, by omega⟩
  have end_ : Ev (fun k => shellaclaw07_PredictLines.l0 k (x - 1000) (y - 10) (5 + z.toNat : Nat) (4 + 1 : Nat)) true := ⟨1, fun k hk => by
    obtain ⟨k, rfl⟩ : ∃ m, k = m + 1 := ⟨k - 1, by omega⟩
    simp only [shellaclaw07_PredictLines.l0]
    rw [if_neg (by omega)]⟩
  have t4 := turn s (5 + z.toNat) (by omega) (by omega) 4 (by omega) (by omega) [4, -6, 4, -1] fixed4 rfl (by decide) (fun z' l h0 h1 k => sample4 s _ z' l h0 h1 k) (zero4 _ _) end_
  have t3 := turn s (5 + z.toNat) (by omega) (by omega) 3 (by omega) (by omega) [3, -3, 1] fixed3 rfl (by decide) (fun z' l h0 h1 k => sample3 s _ z' l h0 h1 k) (zero3 _ _) t4
  have t2 := turn s (5 + z.toNat) (by omega) (by omega) 2 (by omega) (by omega) [2, -1] fixed2 rfl (by decide) (fun z' l h0 h1 k => sample2 s _ z' l h0 h1 k) (zero2 _ _) t3
  have t1 := turn s (5 + z.toNat) (by omega) (by omega) 1 (by omega) (by omega) [1] fixed1 rfl (by decide) (fun z' l h0 h1 k => sample1 s _ z' l h0 h1 k) (zero1 _ _) t2
  exact t1

end Go.Proofs.Ytbigfkfnlbfkhaa.Pure
