/- PredictOrders, the plain law: what is left by the fixed model of one order more is the difference of what is left by the one, for all samples (cut to 200) and orders. -/
import Derived.Test.YtbigfkfnlbfkhaaGPredx3
import Derived.Test.YtbigfkfnlbfkhaaMPredD
namespace Go.Proofs.Ytbigfkfnlbfkhaa.Pure
open Go.RowKit Go.Proofs.Ytbigfkfnlbfkhaa.GPred Go.Proofs.YtbigfkfnlbfkhaaW.PrintWords Go.Proofs.YtbigfkfnlbfkhaaW.PrintLast Go.Proofs.YtbigfkfnlbfkhaaW.PrintMore Go.Proofs.Ytbigfkfnlbfkhaa.GPredF Go.Proofs.Ytbigfkfnlbfkhaa.MPred

def diffTo (a : List Int) (t : Nat) : List Int := (List.range t).map fun u => rd a (u + 1 : Nat) - rd a (u : Nat)
theorem diffTo_succ (a : List Int) (t : Nat) : diffTo a (t + 1) = diffTo a t ++ [rd a (t + 1 : Nat) - rd a (t : Nat)] := by simp [diffTo, List.range_succ]
theorem diffTo_len (a : List Int) (t : Nat) : (diffTo a t).length = t := by simp [diffTo]

theorem loop_ev (a b : List Int) (hf : AllFit a) (ha : a.length ≤ 1000000) (hb : b.length ≤ 1000000) : Ev (fun k => shellaclaw07_PredictOrders.l0 k a b [] 1) (decide (b = diffTo a (a.length - 1))) := by
  have main : ∀ d t : Nat, a.length - 1 - t = d → t ≤ a.length - 1 → ∃ K, ∀ k, K ≤ k → shellaclaw07_PredictOrders.l0 k a b (diffTo a t) (t + 1 : Nat) = some (decide (b = diffTo a (a.length - 1))) := by
    intro d
    induction d with
    | zero =>
      intro t hd ht
      obtain ⟨K, hK⟩ := same_ev b (diffTo a t) (by omega)
      refine ⟨K + 1, fun k hk => ?_⟩
      obtain ⟨k, rfl⟩ : ∃ m, k = m + 1 := ⟨k - 1, by omega⟩
      have hk1 := hK k (by omega)
      dsimp only at hk1
      have c1 : ¬ ((t + 1 : Nat) : Int) < (a.length : Int) := by omega
      obtain rfl : t = a.length - 1 := by omega
      simp only [shellaclaw07_PredictOrders.l0]
      rw [if_neg c1, hk1]
      rfl
    | succ d ih =>
      intro t hd ht
      have c1 : ((t + 1 : Nat) : Int) < (a.length : Int) := by omega
      have c2 : (0 : Int) ≤ ((t + 1 : Nat) : Int) := by omega
      have e1 : wrap64 (((t + 1 : Nat) : Int) - 1) = (t : Nat) := by rw [w64 (by omega) (by omega)]; omega
      have c3 : (0 : Int) ≤ (t : Int) := by omega
      have c4 : (t : Int) < (a.length : Int) := by omega
      have c5 : (diffTo a t).length < 17592186044416 := by rw [diffTo_len]; omega
      have e5 : wrap64 (((t + 1 : Nat) : Int) + 1) = ((t + 1 + 1 : Nat) : Int) := by rw [w64 (by omega) (by omega)]; omega
      have h1 := hf t (by omega)
      have h2 := hf (t + 1) (by omega)
      unfold Fits at h1 h2
      have e2 : wrap64 (rd a (t + 1 : Nat) - rd a (t : Nat)) = rd a (t + 1 : Nat) - rd a (t : Nat) := w64 (by omega) (by omega)
      obtain ⟨K, hK⟩ := ih (t + 1) (by omega) (by omega)
      refine ⟨K + 1, fun k hk => ?_⟩
      obtain ⟨k, rfl⟩ : ∃ m, k = m + 1 := ⟨k - 1, by omega⟩
      have hk1 := hK k (by omega)
      simp only [shellaclaw07_PredictOrders.l0]
      rw [if_pos c1, if_pos c2, e1, if_pos c3, if_pos c4, if_pos c5, e2, e5, ← diffTo_succ]
      exact hk1
  obtain ⟨K, hK⟩ := main _ 0 rfl (by omega)
  exact ⟨K, fun k hk => hK k hk⟩

/-- The difference of what is left, number by number. -/
theorem step0 (f : Int → Int) (n : Int) : f n - f (n - 1) = (f n - 0) - (f (n - 1) - 0) := by omega
theorem step1 (f : Int → Int) (n : Int) : f n - (2 * f (n - 1) - f (n - 2)) = (f n - f (n - 1)) - (f (n - 1) - f (n - 1 - 1)) := by
  rw [show n - 1 - 1 = n - 2 by omega]; omega
theorem step2 (f : Int → Int) (n : Int) : f n - (3 * f (n - 1) - 3 * f (n - 2) + f (n - 3)) = (f n - (2 * f (n - 1) - f (n - 2))) - (f (n - 1) - (2 * f (n - 1 - 1) - f (n - 1 - 2))) := by
  rw [show n - 1 - 1 = n - 2 by omega, show n - 1 - 2 = n - 3 by omega]; omega
theorem step3 (f : Int → Int) (n : Int) : f n - (4 * f (n - 1) - 6 * f (n - 2) + 4 * f (n - 3) - f (n - 4)) = (f n - (3 * f (n - 1) - 3 * f (n - 2) + f (n - 3))) - (f (n - 1) - (3 * f (n - 1 - 1) - 3 * f (n - 1 - 2) + f (n - 1 - 3))) := by
  rw [show n - 1 - 1 = n - 2 by omega, show n - 1 - 2 = n - 3 by omega, show n - 1 - 3 = n - 4 by omega]; omega

theorem res_diff {c c' : List Int} (hcc : c'.length = c.length + 1) (s : List Int) (h : ∀ n : Int, rd s n - prd c' 0 s n = (rd s n - prd c 0 s n) - (rd s (n - 1) - prd c 0 s (n - 1))) (hs : c'.length ≤ s.length) :
    resTo c' 0 s (s.length - c'.length) = diffTo (resTo c 0 s (s.length - c.length)) ((resTo c 0 s (s.length - c.length)).length - 1) := by
  rw [resTo_len]
  have e : s.length - c.length - 1 = s.length - c'.length := by omega
  rw [e]
  apply List.ext_getElem
  · rw [resTo_len, diffTo_len]
  · intro u h1 h2
    rw [resTo_len] at h1
    have a1 := resTo_rd c 0 s (s.length - c.length) (u + 1) (by omega)
    have a2 := resTo_rd c 0 s (s.length - c.length) u (by omega)
    simp only [resTo, diffTo, List.getElem_map, List.getElem_range] at *
    rw [a1, a2, h]
    rw [show ((c'.length + u : Nat) : Int) = ((c.length + (u + 1) : Nat) : Int) by omega, show ((c.length + (u + 1) : Nat) : Int) - 1 = ((c.length + u : Nat) : Int) by omega]

theorem one_order {c c' : List Int} (hcc : c'.length = c.length + 1) (s : List Int) (hlen : s.length ≤ 1000000) (h : ∀ n : Int, rd s n - prd c' 0 s n = (rd s n - prd c 0 s n) - (rd s (n - 1) - prd c 0 s (n - 1))) :
    Ev (fun k => shellaclaw07_PredictOrders.j0 k (resAll c 0 s).1 (resAll c 0 s).2 (resAll c' 0 s).1 (resAll c' 0 s).2 false) true := by
  have one : ∀ (x9 x11 : List Int), Ev (fun k => shellaclaw07_PredictOrders.j1 k x9 x11 true) true := fun x9 x11 => ⟨1, fun k hk => by
    obtain ⟨k, rfl⟩ : ∃ m, k = m + 1 := ⟨k - 1, by omega⟩
    simp only [shellaclaw07_PredictOrders.j1, if_true]⟩
  have key : Ev (fun k => if (resAll c 0 s).2 = 0 then shellaclaw07_PredictOrders.j1 k (resAll c 0 s).1 (resAll c' 0 s).1 ((resAll c' 0 s).2 != 0) else shellaclaw07_PredictOrders.j1 k (resAll c 0 s).1 (resAll c' 0 s).1 true) true := by
    by_cases h1 : (resAll c 0 s).2 = 0
    · refine Ev.ite_pos h1 ?_
      by_cases h2 : (resAll c' 0 s).2 = 0
      · rw [h2]
        have hfa := resAll_fit c s 0
        have hfb := resAll_len c' s 0
        have hfl := resAll_len c s 0
        have heq : (resAll c' 0 s).1 = diffTo (resAll c 0 s).1 ((resAll c 0 s).1.length - 1) := by
          obtain ⟨r1, _⟩ := resAll_ok h1
          obtain ⟨r2, l2, _⟩ := resAll_ok h2
          rw [r1, r2]
          exact res_diff hcc s h l2
        obtain ⟨K, hK⟩ := loop_ev (resAll c 0 s).1 (resAll c' 0 s).1 hfa (by omega) (by omega)
        rw [decide_eq_true heq] at hK
        refine ⟨K + 1, fun k hk => ?_⟩
        obtain ⟨k, rfl⟩ : ∃ m, k = m + 1 := ⟨k - 1, by omega⟩
        have hk1 := hK k (by omega)
        simp only [shellaclaw07_PredictOrders.j1, bne_self_eq_false, Bool.false_eq_true, if_false]
        exact hk1
      · have : ((resAll c' 0 s).2 != 0) = true := by simpa using h2
        rw [this]
        exact one _ _
    · exact Ev.ite_neg h1 (one _ _)
  obtain ⟨K, hK⟩ := key
  refine ⟨K + 1, fun k hk => ?_⟩
  obtain ⟨k, rfl⟩ : ∃ m, k = m + 1 := ⟨k - 1, by omega⟩
  have hk1 := hK k (by omega)
  simp only [shellaclaw07_PredictOrders.j0, Bool.false_eq_true, if_false]
  exact hk1

theorem PredictOrders : shellaclaw07_PredictOrders.Pure := by
  intro l0 a1 _ _ _ _
  refine Ev.rounds (g := fun k => shellaclaw07_PredictOrders.f k l0 a1) ?_
  unfold shellaclaw07_PredictOrders.f
  refine Ev.bind known_ev ?_
  refine Ev.ite_pos rfl ?_
  obtain ⟨m0, m1, m2⟩ := mn_len l0 200 (by omega)
  have ht := take_len l0 200 (by omega)
  refine Ev.ite_pos m0 (Ev.ite_pos m1 ?_)
  obtain ⟨o0, o1⟩ := mod_rng a1 4 (by omega) (by omega)
  generalize l0.take (mn (l0.length : Int) 200).toNat = s at *
  generalize wrap64 (Int.tmod (IntKind.u64.wrap a1) 4) = o at *
  have hs : s.length ≤ 1000000 := by omega
  have e1 : wrap64 (o + 1) = o + 1 := w64 (by omega) (by omega)
  rw [e1]
  have fin : ∀ (c c' : List Int), predict_Fixed.f 40 o = some (c, 0, 0) → predict_Fixed.f 40 (o + 1) = some (c', 0, 0) → (c.length : Int) = o → c'.length = c.length + 1 →
      (∀ n : Int, rd s n - prd c' 0 s n = (rd s n - prd c 0 s n) - (rd s (n - 1) - prd c 0 s (n - 1))) →
      Ev (fun n => (predict_Fixed.f n o).bind fun bt137 => (predict_Fixed.f n (o + 1)).bind fun bt143 => (predict_Residual.f n bt137.1 bt137.2.1 s).bind fun bt149 => (predict_Residual.f n bt143.1 bt143.2.1 s).bind fun bt153 =>
        if bt137.2.2 = 0 then if bt143.2.2 = 0 then if (bt137.1.length : Int) = o then shellaclaw07_PredictOrders.j0 n bt149.1 bt149.2 bt153.1 bt153.2 (bt137.2.1 != 0) else shellaclaw07_PredictOrders.j0 n bt149.1 bt149.2 bt153.1 bt153.2 true
          else shellaclaw07_PredictOrders.j0 n bt149.1 bt149.2 bt153.1 bt153.2 true else shellaclaw07_PredictOrders.j0 n bt149.1 bt149.2 bt153.1 bt153.2 true) true := by
    intro c c' h1 h2 h3 h4 h5
    refine Ev.bind (fixed_ev h1) (Ev.bind (fixed_ev h2) (Ev.bind (residual_ev c s 0 hs) (Ev.bind (residual_ev c' s 0 hs) ?_)))
    refine Ev.ite_pos rfl (Ev.ite_pos rfl (Ev.ite_pos h3 ?_))
    exact one_order h4 s hs h5
  rcases (show o = 0 ∨ o = 1 ∨ o = 2 ∨ o = 3 by omega) with rfl | rfl | rfl | rfl
  · exact fin [] [1] fixed0 fixed1 rfl rfl (fun n => by rw [prd1, prd0, prd0]; exact step0 (rd s) n)
  · exact fin [1] [2, -1] fixed1 fixed2 rfl rfl (fun n => by rw [prd2, prd1, prd1]; exact step1 (rd s) n)
  · exact fin [2, -1] [3, -3, 1] fixed2 fixed3 rfl rfl (fun n => by rw [prd3, prd2, prd2]; exact step2 (rd s) n)
  · exact fin [3, -3, 1] [4, -6, 4, -1] fixed3 fixed4 rfl rfl (fun n => by rw [prd4, prd3, prd3]; exact step3 (rd s) n)

end Go.Proofs.Ytbigfkfnlbfkhaa.Pure
