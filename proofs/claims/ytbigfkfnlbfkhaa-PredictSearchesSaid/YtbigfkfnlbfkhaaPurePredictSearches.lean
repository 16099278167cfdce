/- PredictSearches, the plain law: the program's search and the reference's find the same model. -/
import Derived.Test.YtbigfkfnlbfkhaaGPredUx1
import Derived.Test.YtbigfkfnlbfkhaaMSearch
namespace Go.Proofs.Ytbigfkfnlbfkhaa.Pure
open Go.RowKit Go.Proofs.Ytbigfkfnlbfkhaa.GPredT Go.Proofs.YtbigfkfnlbfkhaaW.PrintWords Go.Proofs.YtbigfkfnlbfkhaaW.PrintLast Go.Proofs.Ytbigfkfnlbfkhaa.MPred Go.Proofs.Ytbigfkfnlbfkhaa.GPred

theorem searchAll_len (s : List Int) (a : Int) : (searchAll s a).1.length ≤ 8 := by
  unfold searchAll
  by_cases h1 : a < 0
  · rw [if_pos h1]; simp
  rw [if_neg h1]
  by_cases h2 : a > 8
  · rw [if_pos h2]; simp
  rw [if_neg h2]
  by_cases h3 : (s.length : Int) < a
  · rw [if_pos h3]; simp
  rw [if_neg h3]
  by_cases h4 : s.any HPred.wideB = true
  · rw [if_pos h4]; simp
  rw [if_neg h4]
  dsimp only
  rw [four_len]
  have := (begin_all a.toNat (by omega)).2.2.1
  dsimp only
  omega

theorem same_pair (a b : List Int) (x y : Int) (hlen : a.length ≤ 2000000) (h : a = b) (hxy : x = y) : Ev (fun k => shellaclaw07_same.f k a x b y) true := by
  subst h
  subst hxy
  unfold shellaclaw07_same.f
  refine Ev.bind (same_ev a a hlen) ?_
  refine Ev.ite_pos (by simp) ?_
  exact Ev.const (by simp)

theorem PredictSearches : shellaclaw07_PredictSearches.Pure := by
  intro l0 a1 hl _ hwf hwf1
  apply Ev.rounds
  unfold shellaclaw07_PredictSearches.f
  refine Ev.bind known_ev ?_
  obtain ⟨m0, m1, m2⟩ := mn_len l0 200 (by omega)
  have hcut := take_len l0 200 (by omega)
  refine Ev.ite_pos rfl (Ev.ite_pos m0 (Ev.ite_pos m1 ?_))
  generalize l0.take (mn (l0.length : Int) 200).toNat = s at *
  refine Ev.bind (docsearch_ev s a1 (by omega)) ?_
  refine Ev.bind (search_ev s a1 (by omega)) ?_
  have hq := searchAll_len s a1
  refine Ev.bind (same_pair _ _ _ _ (by omega) rfl rfl) ?_
  refine Ev.ite_pos rfl ?_
  exact Ev.const (by simp)

end Go.Proofs.Ytbigfkfnlbfkhaa.Pure
