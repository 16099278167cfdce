/- Plain law for layer 7, fifth part: the models' copy, Restore of both, and that what is left makes the samples again. -/
import Derived.Test.YtbigfkfnlbfkhaaMPredD
import Derived.Test.YtbigfkfnlbfkhaaGPredx7
namespace Go.Proofs.Ytbigfkfnlbfkhaa.MPred
open Go.RowKit Go.Proofs.YtbigfkfnlbfkhaaW.PrintWords Go.Proofs.YtbigfkfnlbfkhaaW.PrintMore Go.Proofs.Ytbigfkfnlbfkhaa.HPred Go.Proofs.Ytbigfkfnlbfkhaa.GPredF Go.Proofs.Ytbigfkfnlbfkhaa.GPred

theorem of_eq (c : List Int) (sh : Int) (h : c.length * 8 ≤ 140737488351232) : shellaclaw07_of.f c sh = some (c, sh) := by
  unfold shellaclaw07_of.f
  have e : wrap64 ((c.length : Int) + 2) = (c.length : Int) + 2 := w64 (by omega) (by omega)
  rw [e, if_pos (by omega), if_pos (by omega)]
  simp only [Option.bind_some, List.length_nil, List.nil_append]
  rw [if_pos (by omega)]

/-- Samples made again out of what is left. -/
def restFrom (c : List Int) (sh : Int) : List Int → List Int → List Int × Int
  | [], out => (out, 0)
  | x :: r, out => if wideB (x + prd c sh out out.length) = true then ([], 12) else restFrom c sh r (out ++ [x + prd c sh out out.length])
def restAll (c : List Int) (sh : Int) (warm res : List Int) : List Int × Int :=
  if goodB c sh = true then (if warm.length = c.length then (if warm.any wideB = true then ([], 12) else if res.any wideB = true then ([], 12) else restFrom c sh res warm) else ([], 1)) else ([], 2)

theorem allFit_snoc {l : List Int} {x : Int} (h : AllFit l) (hx : wideB x = false) : AllFit (l ++ [x]) := by
  apply allFit_any.2
  rw [List.any_append, allFit_any.1 h]
  simp [hx]

theorem restore_main {c res : List Int} {sh : Int} (g : Good c sh) (hr : AllFit res) (hlen : res.length ≤ 100000) :
    ∀ (d i : Nat) (out : List Int), res.length - i = d → i ≤ res.length → out.length ≤ 10 + i → c.length ≤ out.length → AllFit out →
      Ev (fun k => predict_Restore.l0 k out res (res.length : Int) i c sh) (restFrom c sh (res.drop i) out) := by
  intro d
  induction d with
  | zero =>
    intro i out hd hi hl hc ho
    rw [List.drop_of_length_le (by omega)]
    refine ⟨1, fun k hk => ?_⟩
    obtain ⟨k, rfl⟩ : ∃ m, k = m + 1 := ⟨k - 1, by omega⟩
    show predict_Restore.l0 (k + 1) out res (res.length : Int) i c sh = _
    have c1 : ¬ (i : Int) < (res.length : Int) := by omega
    simp only [predict_Restore.l0]
    rw [if_neg c1]
    rfl
  | succ d ih =>
    intro i out hd hi hl hc ho
    have hlt : i < res.length := by omega
    have er := rd_nat res i hlt
    obtain ⟨K1, hK1⟩ := predict_ev g ho (by omega) hc
    dsimp only at hK1
    have hb := prd_bd g ho out.length (Nat.le_refl _) hc
    have hx := hr i hlt
    unfold Fits at hx
    have c1 : (i : Int) < (res.length : Int) := by omega
    have c2 : (0 : Int) ≤ (i : Int) := by omega
    have c3 : out.length < 17592186044416 := by omega
    have e5 : Aside0 (wrap64 ((i : Int) + 1) = ((i + 1 : Nat) : Int)) := ⟨by rw [w64 (by omega) (by omega)]; omega⟩
    have e2 : Aside0 (wrap64 (rd res i + prd c sh out out.length) = rd res i + prd c sh out out.length) := ⟨w64 (by omega) (by omega)⟩
    rw [List.drop_eq_getElem_cons hlt, ← er]
    simp only [restFrom]
    cases hw : wideB (rd res i + prd c sh out out.length) with
    | true =>
      rw [if_pos rfl]
      refine ⟨K1 + 1, fun k hk => ?_⟩
      obtain ⟨k, rfl⟩ : ∃ m, k = m + 1 := ⟨k - 1, by omega⟩
      have k1 := hK1 k (by omega)
      show predict_Restore.l0 (k + 1) out res (res.length : Int) i c sh = _
      simp only [predict_Restore.l0]
      rw [if_pos c1, if_pos c2, if_pos c1, k1]
      simp only [Option.bind_some]
      rw [e2.out, wide_eq, hw]
      simp only [Option.bind_some, if_true]
    | false =>
      rw [if_neg (by decide)]
      have hfit := allFit_snoc ho hw
      obtain ⟨K2, hK2⟩ := ih (i + 1) (out ++ [rd res i + prd c sh out out.length]) (by omega) (by omega) (by simp; omega) (by simp; omega) hfit
      dsimp only at hK2
      refine ⟨K1 + K2 + 1, fun k hk => ?_⟩
      obtain ⟨k, rfl⟩ : ∃ m, k = m + 1 := ⟨k - 1, by omega⟩
      have k1 := hK1 k (by omega)
      have k2 := hK2 k (by omega)
      show predict_Restore.l0 (k + 1) out res (res.length : Int) i c sh = _
      simp only [predict_Restore.l0]
      rw [if_pos c1, if_pos c2, if_pos c1, k1]
      simp only [Option.bind_some]
      rw [e2.out, wide_eq, hw]
      simp only [Option.bind_some, Bool.false_eq_true, if_false]
      rw [if_pos c3, e5.out]
      exact k2

theorem docrestore_main {c res : List Int} {sh : Int} (g : Good c sh) (hr : AllFit res) (hlen : res.length ≤ 100000) :
    ∀ (d i : Nat) (out : List Int), res.length - i = d → i ≤ res.length → out.length ≤ 10 + i → c.length ≤ out.length → AllFit out →
      Ev (fun k => shellacref07_DocRestore.l0 k res out i c sh) (restFrom c sh (res.drop i) out) := by
  intro d
  induction d with
  | zero =>
    intro i out hd hi hl hc ho
    rw [List.drop_of_length_le (by omega)]
    refine ⟨1, fun k hk => ?_⟩
    obtain ⟨k, rfl⟩ : ∃ m, k = m + 1 := ⟨k - 1, by omega⟩
    show shellacref07_DocRestore.l0 (k + 1) res out i c sh = _
    have c1 : ¬ (i : Int) < (res.length : Int) := by omega
    simp only [shellacref07_DocRestore.l0]
    rw [if_neg c1]
    rfl
  | succ d ih =>
    intro i out hd hi hl hc ho
    have hlt : i < res.length := by omega
    have er := rd_nat res i hlt
    obtain ⟨K1, hK1⟩ := docpredict_ev g ho out.length (by omega) (Nat.le_refl _) hc
    dsimp only at hK1
    have hb := prd_bd g ho out.length (Nat.le_refl _) hc
    have hx := hr i hlt
    unfold Fits at hx
    have c1 : (i : Int) < (res.length : Int) := by omega
    have c2 : (0 : Int) ≤ (i : Int) := by omega
    have c3 : out.length < 17592186044416 := by omega
    have e5 : Aside0 (wrap64 ((i : Int) + 1) = ((i + 1 : Nat) : Int)) := ⟨by rw [w64 (by omega) (by omega)]; omega⟩
    have e2 : Aside0 (wrap64 (rd res i + prd c sh out out.length) = rd res i + prd c sh out out.length) := ⟨w64 (by omega) (by omega)⟩
    rw [List.drop_eq_getElem_cons hlt, ← er]
    simp only [restFrom]
    cases hw : wideB (rd res i + prd c sh out out.length) with
    | true =>
      rw [if_pos rfl]
      refine ⟨K1 + 1, fun k hk => ?_⟩
      obtain ⟨k, rfl⟩ : ∃ m, k = m + 1 := ⟨k - 1, by omega⟩
      have k1 := hK1 k (by omega)
      show shellacref07_DocRestore.l0 (k + 1) res out i c sh = _
      simp only [shellacref07_DocRestore.l0]
      rw [if_pos c1, if_pos c2, k1]
      simp only [Option.bind_some]
      rw [e2.out, in_eq, hw]
      simp
    | false =>
      rw [if_neg (by decide)]
      have hfit := allFit_snoc ho hw
      obtain ⟨K2, hK2⟩ := ih (i + 1) (out ++ [rd res i + prd c sh out out.length]) (by omega) (by omega) (by simp; omega) (by simp; omega) hfit
      dsimp only at hK2
      refine ⟨K1 + K2 + 1, fun k hk => ?_⟩
      obtain ⟨k, rfl⟩ : ∃ m, k = m + 1 := ⟨k - 1, by omega⟩
      have k1 := hK1 k (by omega)
      have k2 := hK2 k (by omega)
      show shellacref07_DocRestore.l0 (k + 1) res out i c sh = _
      simp only [shellacref07_DocRestore.l0]
      rw [if_pos c1, if_pos c2, k1]
      simp only [Option.bind_some]
      rw [e2.out, in_eq, hw]
      simp only [Option.bind_some, Bool.not_false, if_true]
      rw [if_pos c3, e5.out]
      exact k2

theorem restore_ev (c : List Int) (sh : Int) (warm res : List Int) (hlen : res.length ≤ 100000) : Ev (fun k => predict_Restore.f k c sh warm res) (restAll c sh warm res) := by
  unfold predict_Restore.f restAll
  refine Ev.cbind (check_eq c sh) ?_
  by_cases hg : goodB c sh = true
  · rw [if_pos hg, if_pos hg]
    refine Ev.ite_pos rfl ?_
    have g := good_iff.1 hg
    have h8 := g.len
    by_cases hl : warm.length = c.length
    · rw [if_pos hl]
      refine Ev.ite_pos (by omega) ?_
      refine Ev.cbind (show contains_wide.f warm () = some (warm.any wideB) from rfl) ?_
      by_cases hw : warm.any wideB = true
      · rw [if_pos hw]
        exact Ev.ite_pos hw (Ev.now _)
      · rw [if_neg hw]
        refine Ev.ite_neg hw ?_
        refine Ev.cbind (show contains_wide.f res () = some (res.any wideB) from rfl) ?_
        by_cases hw2 : res.any wideB = true
        · rw [if_pos hw2]
          exact Ev.ite_pos hw2 (Ev.now _)
        · rw [if_neg hw2]
          refine Ev.ite_neg hw2 ?_
          refine Ev.cbind (show clone.f warm = some warm by unfold clone.f; rw [if_pos (by omega)]) ?_
          have := restore_main g (allFit_any.2 (by simpa using hw2)) hlen res.length 0 warm (by omega) (by omega) (by omega) (by omega) (allFit_any.2 (by simpa using hw))
          simpa using this
    · rw [if_neg hl]
      exact Ev.ite_neg (by omega) (Ev.now _)
  · rw [if_neg hg, if_neg hg]
    exact Ev.ite_neg (by decide) (Ev.now _)

theorem docrestore_ev (c : List Int) (sh : Int) (warm res : List Int) (hlen : res.length ≤ 100000) : Ev (fun k => shellacref07_DocRestore.f k c sh warm res) (restAll c sh warm res) := by
  unfold shellacref07_DocRestore.f restAll
  refine Ev.bind (right_ev c sh) ?_
  by_cases hg : goodB c sh = true
  · rw [if_pos hg]
    refine Ev.ite_pos hg ?_
    have g := good_iff.1 hg
    have h8 := g.len
    have bad : Ev (fun k => shellacref07_DocRestore.j0 k warm res true c sh) (([] : List Int), (12 : Int)) := ⟨1, fun k hk => by
      obtain ⟨k, rfl⟩ : ∃ m, k = m + 1 := ⟨k - 1, by omega⟩
      simp only [shellacref07_DocRestore.j0, if_true]⟩
    by_cases hl : warm.length = c.length
    · rw [if_pos hl]
      refine Ev.ite_pos (by omega) ?_
      refine Ev.bind (all_ev warm (by omega)) ?_
      by_cases hw : warm.any wideB = true
      · rw [if_pos hw]
        refine Ev.ite_neg (by rw [hw]; decide) bad
      · rw [if_neg hw]
        refine Ev.ite_pos (by simpa using hw) ?_
        refine Ev.bind (all_ev res (by omega)) ?_
        by_cases hw2 : res.any wideB = true
        · rw [if_pos hw2, hw2]
          exact bad
        · rw [if_neg hw2]
          have hw2' : res.any wideB = false := by simpa using hw2
          rw [hw2']
          obtain ⟨K, hK⟩ := docrestore_main g (allFit_any.2 hw2') hlen res.length 0 warm (by omega) (by omega) (by omega) (by omega) (allFit_any.2 (by simpa using hw))
          dsimp only at hK
          refine ⟨K + 1, fun k hk => ?_⟩
          obtain ⟨k, rfl⟩ : ∃ m, k = m + 1 := ⟨k - 1, by omega⟩
          have k1 := hK k (by omega)
          show shellacref07_DocRestore.j0 (k + 1) warm res (!(!false)) c sh = _
          simp only [shellacref07_DocRestore.j0, Bool.not_false, Bool.not_true, Bool.false_eq_true, if_false, Option.bind_some, List.nil_append, List.length_nil]
          rw [if_pos (by omega)]
          simpa using k1
    · rw [if_neg hl]
      exact Ev.ite_neg (by omega) (Ev.now _)
  · rw [if_neg hg]
    exact Ev.ite_neg hg (Ev.now _)

theorem restFrom_len (c : List Int) (sh : Int) : ∀ (r out : List Int), (restFrom c sh r out).1.length ≤ out.length + r.length
  | [], out => by simp [restFrom]
  | x :: r, out => by
    simp only [restFrom]
    split
    · simp
    · have := restFrom_len c sh r (out ++ [x + prd c sh out out.length])
      simp at this ⊢
      omega
theorem restAll_len (c : List Int) (sh : Int) (warm res : List Int) : (restAll c sh warm res).1.length ≤ 8 + res.length := by
  unfold restAll
  by_cases hg : goodB c sh = true
  · have h8 := (good_iff.1 hg).len
    rw [if_pos hg]
    by_cases hl : warm.length = c.length
    · rw [if_pos hl]
      have := restFrom_len c sh res warm
      split
      · simp
      · split
        · simp
        · omega
    · rw [if_neg hl]; simp
  · rw [if_neg hg]; simp

/-- What is left makes the samples again. -/
theorem back_main (c s : List Int) (sh : Int) (hs : AllFit s) (hc : c.length ≤ s.length) : ∀ (d t : Nat), s.length - c.length - t = d → t ≤ s.length - c.length →
    restFrom c sh ((resTo c sh s (s.length - c.length)).drop t) (s.take (c.length + t)) = (s, 0) := by
  intro d
  induction d with
  | zero =>
    intro t hd ht
    rw [List.drop_of_length_le (by rw [resTo_len]; omega), List.take_of_length_le (by omega)]
    rfl
  | succ d ih =>
    intro t hd ht
    have hlt : t < (resTo c sh s (s.length - c.length)).length := by rw [resTo_len]; omega
    have h1 := resTo_rd c sh s (s.length - c.length) t (by omega)
    rw [rd_nat _ _ hlt] at h1
    have hl : (s.take (c.length + t)).length = c.length + t := by rw [List.length_take]; omega
    have hlt2 : c.length + t < s.length := by omega
    rw [List.drop_eq_getElem_cons hlt, h1]
    simp only [restFrom]
    rw [hl, prd_take c s sh (c.length + t) (by omega) (by omega)]
    rw [show rd s (c.length + t : Nat) - prd c sh s (c.length + t : Nat) + prd c sh s (c.length + t : Nat) = rd s (c.length + t : Nat) by omega]
    have hf := hs (c.length + t) hlt2
    have hw : wideB (rd s (c.length + t : Nat)) = false := by
      unfold Fits at hf
      unfold wideB
      rw [decide_eq_false (by omega), decide_eq_false (by omega)]
      rfl
    rw [hw, if_neg (by decide), rd_nat s _ hlt2, ← List.take_succ_eq_append_getElem hlt2]
    exact ih (t + 1) (by omega) (by omega)

theorem back_eq {c s : List Int} {sh : Int} (h : (resAll c sh s).2 = 0) : restAll c sh (s.take c.length) (resAll c sh s).1 = (s, 0) ∧ (resAll c sh s).1.length = s.length - c.length ∧ c.length ≤ s.length := by
  obtain ⟨r1, l1, f1, g, f2⟩ := resAll_ok h
  refine ⟨?_, by rw [r1, resTo_len], l1⟩
  rw [r1]
  unfold restAll
  rw [if_pos (good_iff.2 g), if_pos (by rw [List.length_take]; omega)]
  have a1 := allFit_any.1 (allFit_take f1 c.length)
  have a2 := allFit_any.1 f2
  rw [a1, if_neg (by decide), a2, if_neg (by decide)]
  have := back_main c s sh f1 l1 _ 0 rfl (by omega)
  simpa using this
end Go.Proofs.Ytbigfkfnlbfkhaa.MPred
