/- PredictLeaves, the row: the plain law joined with the walk. -/
import Derived.Test.YtbigfkfnlbfkhaaGPredx9
import Derived.Test.YtbigfkfnlbfkhaaMPredD
import Derived.Test.YtbigfkfnlbfkhaaRows
import Derived.Test.YtbigfkfnlbfkhaaWSized
import Derived.WalkKit
import Derived.ProofKit
import Derived.OpenShut
import Derived.ShutString
import Derived.ChangeOld
import Derived.Below
import Derived.SizedLaws
import Derived.Lib.SmallJoins
namespace Go.Proofs.Ytbigfkfnlbfkhaa.predictLeaves
open Go.ChangeShapes Go.WideShapes Go.ChangeAt Go.RowKit Go.Joins
open Go.ChangeMaps (open_string shut_string)
set_option linter.unusedVariables false
section
open Go.Proofs.Ytbigfkfnlbfkhaa.GPred Go.Proofs.YtbigfkfnlbfkhaaW.PrintWords Go.Proofs.YtbigfkfnlbfkhaaW.PrintLast Go.Proofs.YtbigfkfnlbfkhaaW.PrintMore Go.Proofs.Ytbigfkfnlbfkhaa.GPredF Go.Proofs.Ytbigfkfnlbfkhaa.MPred Go.Proofs.Ytbigfkfnlbfkhaa.HPred
theorem of_eq (c : List Int) (sh : Int) (h : c.length * 8 ≤ 140737488351232) : shellaclaw07_of.f c sh = some (c, sh) := by
  unfold shellaclaw07_of.f
  have e : wrap64 ((c.length : Int) + 2) = (c.length : Int) + 2 := w64 (by omega) (by omega)
  rw [e, if_pos (by omega), if_pos (by omega)]
  simp only [Option.bind_some, List.length_nil, List.nil_append]
  rw [if_pos (by omega)]
theorem cut_eq (l : List Int) : shellaclaw07_cut.f l = some (l.take (mn (l.length : Int) 600).toNat) := by
  obtain ⟨m0, m1, _⟩ := mn_len l 600 (by omega)
  unfold shellaclaw07_cut.f
  rw [if_pos m0, if_pos m1]
/-- The fixed models are those of the document. -/
theorem fixed_both (o : Int) : ∃ (c : List Int) (e : Int), GPred.shellacref07_Fixed.f o = some (c, 0, e) ∧ predict_Fixed.f 40 o = some (c, 0, e) ∧ c.length ≤ 4 := by
  by_cases h0 : o < 0
  · exact ⟨[], 1, by unfold GPred.shellacref07_Fixed.f; rw [if_pos h0], fixedLow h0, by simp⟩
  · by_cases h4 : 4 < o
    · exact ⟨[], 1, by unfold GPred.shellacref07_Fixed.f; rw [if_neg h0, if_pos (by omega)], fixedHigh h4, by simp⟩
    · rcases (show o = 0 ∨ o = 1 ∨ o = 2 ∨ o = 3 ∨ o = 4 by omega) with rfl | rfl | rfl | rfl | rfl
      · exact ⟨[], 0, by decide +kernel, fixed0, by simp⟩
      · exact ⟨[1], 0, by decide +kernel, fixed1, by simp⟩
      · exact ⟨[2, -1], 0, by decide +kernel, fixed2, by simp⟩
      · exact ⟨[3, -3, 1], 0, by decide +kernel, fixed3, by simp⟩
      · exact ⟨[4, -6, 4, -1], 0, by decide +kernel, fixed4, by simp⟩
theorem pure (c : List Int) (sh : Int) (l : List Int) (o : Int) (hc : c.length * 8 ≤ 140737488351232) (_ho : (Lit.int .i64 o).wf = true) : ∃ k, shellaclaw07_PredictLeaves.f k c sh l o = some true := by
  refine Ev.rounds (g := fun k => shellaclaw07_PredictLeaves.f k c sh l o) ?_
  unfold shellaclaw07_PredictLeaves.f
  refine Ev.bind known_ev (Ev.ite_pos rfl ?_)
  refine Ev.cbind (cut_eq l) ?_
  have ht := take_len l 600 (by omega)
  generalize l.take (mn (l.length : Int) 600).toNat = s at *
  have hs : s.length ≤ 1000000 := by omega
  have hl := resAll_len c s sh
  obtain ⟨f, e, x1, x2, x3⟩ := fixed_both o
  refine Ev.bind (docresidual_ev c s sh hs) (Ev.cbind (of_eq c sh hc) (Ev.bind (residual_ev c s sh hs) (Ev.bind (doccost_ev c s sh hs) (Ev.cbind (of_eq c sh hc) (Ev.bind (cost_ev c s sh hs) (Ev.cbind x1 (Ev.bind (fixed_ev x2) (Ev.cbind (of_eq c sh hc) (Ev.cbind (check_eq c sh) (Ev.bind (right_ev c sh) ?_))))))))))
  refine Ev.ite_pos (by cases goodB c sh <;> rfl) ?_
  refine Ev.bind (same_ev _ _ (by omega)) ?_
  refine Ev.ite_pos (by simp) (Ev.ite_pos rfl (Ev.ite_pos rfl (Ev.ite_pos rfl ?_)))
  have hsame : Ev (fun k => shellaclaw07_same.f k f 0 f 0) true := by
    unfold shellaclaw07_same.f
    refine Ev.bind (same_ev f f (by omega)) ?_
    refine Ev.ite_pos (by simp) (Ev.const (by simp))
  refine Ev.bind hsame (Ev.ite_pos rfl (Ev.const (by simp)))

theorem walk (a0 : Option Addr) (len0 cap0 : Nat) (z0 : List Int) (b0 : Int) (a1 : Option Addr) (len1 cap1 : Nat) (z1 : List Int) (a2 : Int) (w : World) (w0 : ((a0 = none ∧ len0 = 0 ∧ cap0 = 0 ∧ z0 = []) ∨ ∃ x, a0 = some x ∧ len0 ≤ cap0 ∧ cap0 ≤ maxLen ∧ z0.length = cap0 ∧ (∀ i, i < z0.length → w.cell? (x.add i) = some (.int .i64 (z0.getD i 0))) ∧ ∀ n ∈ z0, (Lit.int .i64 n).wf = true)) (y0 : len0 * 8 ≤ 140737488351232) (w1 : ((a1 = none ∧ len1 = 0 ∧ cap1 = 0 ∧ z1 = []) ∨ ∃ x, a1 = some x ∧ len1 ≤ cap1 ∧ cap1 ≤ maxLen ∧ z1.length = cap1 ∧ (∀ i, i < z1.length → w.cell? (x.add i) = some (.int .i64 (z1.getD i 0))) ∧ ∀ n ∈ z1, (Lit.int .i64 n).wf = true)) (w2 : (Lit.int .i64 a2).wf = true) :
    Calls Try.prog 5 #[.agg #[.slice a0 len0 cap0, .int .i64 b0], .slice a1 len1 cap1, .int .i64 a2] w fun e w' => e = .returned (.bool true) ∧ Below w.heap.size w w' := by
  obtain ⟨l0, rfl, hr0, hm0, hw0, hc0⟩ := ReadsInt.ofRowC w0
  obtain ⟨l1, rfl, hr1, hm1, hw1, hc1⟩ := ReadsInt.ofRowC w1
  obtain ⟨k, h⟩ := pure l0 b0 l1 a2 y0 w2
  refine (shellaclaw07_PredictLeaves.calls k _ _ l0 b0 _ _ l1 a2 true w (Kd.C_of_reads (d := (0 : Int)) (h1 := fun _ => rfl) hr0) hc0 (Kd.C_of_reads (d := (0 : Int)) (h1 := fun _ => rfl) hr1) hc1 h).mono ?_
  rintro e w' ⟨rfl, hd⟩
  exact ⟨rfl, hd⟩
end
theorem own : ownKnob Try.prog.godebug = none := by kernel_rfl
theorem laidOut : laidOutB Try.prog = true := by kernel_rfl
theorem cells40 : Try.prog.cellsOf 40 = 2 := by kernel_rfl
def IsRow (k : IntKind) (w : World) (a : Option Addr) (len cap : Nat) (zs : List Int) : Prop :=
  (a = none ∧ len = 0 ∧ cap = 0 ∧ zs = []) ∨
  ∃ x, a = some x ∧ len ≤ cap ∧ cap ≤ maxLen ∧ zs.length = cap ∧ (∀ i, i < zs.length → w.cell? (x.add i) = some (.int k (zs.getD i 0))) ∧ ∀ n ∈ zs, (Lit.int k n).wf = true
set_option maxRecDepth 100000 in
theorem lifted (os : Os) (started : os.Started) (H : Type) (enc : TypeId × Value → H) :
    ReturnsInHanded {} Try.checked os 5 .any (Rows.predictLeavesSpec.pre6 enc Try.prog Try.f5 Rows.predictLeavesRow.domain false) (Rows.predictLeavesSpec.post enc Try.prog Try.f5 false true false false) := by
  refine returnsInHanded_of_change_sized (C := Try.checked) own started (by kernel_rfl) Try.func5
    (ChangeSpec.witness6 (enc := enc) (C := Try.checked) false ⟨#[], #[.agg #[.slice none 0 0, .int .i64 0], .slice none 0 0, .int .i64 0], []⟩ 8 (by kernel_rfl) (by kernel_rfl) (by kernel_rfl) (by kernel_rfl)) ?_
  intro W base args ds gs before hval0 hW hcnd hsz0 _
  have hsz : (DataW.weightsEach Try.prog (Try.f5.params.toList ++ Rows.predictLeavesSpec.plain.varTypes Try.prog) (ds ++ gs)).all (· ≤ reachBytes) = true := hsz0
  have hval : ∀ (j : Nat) t v, Try.f5.params[j]? = some t → args[j]? = some v → Value.okWide Try.prog W .any base t v := hval0
  have hW' := hW
  obtain ⟨p, q, hA0, hV, rfl, hfz, hnd⟩ := hW
  have hA : DataW.TrodAll enc Try.prog W 0 (fun _ => true) true Try.f5.params.toList args.toList ds p := hA0
  rw [Try.params5] at hA hval hsz
  obtain ⟨v0, vs0, d0, ds0, p0, q0, hargs, rfl, rfl, h0, r0⟩ := trodAll_cons hA
  obtain ⟨v1, vs1, d1, ds1, p1, q1, rfl, rfl, rfl, h1, r1⟩ := trodAll_cons r0
  obtain ⟨v2, vs2, d2, ds2, p2, q2, rfl, rfl, rfl, h2, r2⟩ := trodAll_cons r1
  obtain ⟨rfl, rfl, rfl⟩ := trodAll_nil r2
  obtain rfl : args = #[v0, v1, v2] := by cases args; simp_all
  obtain ⟨rfl, rfl⟩ := trodVars_none hV
  have k0 := h0
  have lt0 : ∀ x ∈ p0, x.block < W.heap.size := by obtain ⟨m, hm⟩ := k0; exact DataW.trod_lt m _ _ _ hm
  obtain ⟨a0, len0, cap0, z0, b0, hv0, w0, y0⟩ : ∃ a len cap zs b, v0 = .agg #[.slice a len cap, .int .i64 b] ∧ IsRow .i64 W a len cap zs ∧ len * 8 ≤ 140737488351232 := by
    obtain ⟨c0, c1, y0, y1, m, hv, hd, hp, hy0, hy1⟩ := open_agg2 Try.underlying40 (by kernel_rfl) cells40 (hval 0 40 v0 rfl rfl) h0
    obtain ⟨a, l, c, hc0⟩ := slice_form Try.underlying22 hy0
    obtain ⟨b, e1, hb1, wb⟩ := DataW.trod_int Try.underlying3 hy1
    simp only [List.cons.injEq, and_true] at hc0 e1
    subst hc0 e1
    have hT : DataW.Trod enc Try.prog W 0 (fun _ => true) true 22 (.slice a l c) y0.1 y0.2 := ⟨m, by simpa [Value.cells] using hy0⟩
    have hsz2 : (DataW.weightsEach Try.prog [22, 3] [y0.1, y1.1]).all (· ≤ reachBytes) = true := by
      refine List.all_eq_true.2 fun x hx => ?_
      refine List.all_eq_true.1 hsz x (DataW.weights_mem_each (j := 0) (t := 40) rfl (show _ = some d0 from rfl) x ?_)
      rw [hd]
      simp only [DataW.weights, Try.underlying40]
      exact hx
    have y : l * 8 ≤ 140737488351232 := Go.Proofs.YtbigfkfnlbfkhaaW.PrintWords.sized_ints hsz2 (j := 0) (t := 22) rfl rfl Try.underlying22 Try.underlying3 (by kernel_rfl) (by kernel_rfl) hT
    rcases open_ints Try.underlying22 Try.underlying3 (by kernel_rfl) hy0 with ⟨hcs, _⟩ | ⟨x, l', c', zs, hcs, _, hl, hm, hz, _, hcell, hwz⟩
    · simp at hcs
      obtain ⟨rfl, rfl, rfl⟩ := hcs
      exact ⟨_, _, _, [], b, hv, .inl ⟨rfl, rfl, rfl, rfl⟩, y⟩
    · simp at hcs
      obtain ⟨rfl, rfl, rfl⟩ := hcs
      exact ⟨_, _, _, zs, b, hv, .inr ⟨_, rfl, hl, hm, by simpa using hz, hcell, hwz⟩, y⟩
  subst hv0
  obtain ⟨a1, len1, cap1, rfl⟩ := okWide_slice Try.underlying22 (hval 1 22 v1 rfl rfl)
  have k1 := h1
  have lt1 : ∀ x ∈ p1, x.block < W.heap.size := by obtain ⟨m, hm⟩ := k1; exact DataW.trod_lt m _ _ _ hm
  obtain ⟨z1, w1⟩ : ∃ zs, IsRow .i64 W a1 len1 cap1 zs := by
    obtain ⟨fuel, hf⟩ := h1
    rcases open_ints Try.underlying22 Try.underlying3 (by kernel_rfl) hf with ⟨hcs, _⟩ | ⟨x, l, c, zs, hcs, _, hl, hm, hz, _, hcell, hwz⟩
    · simp [Value.cells] at hcs
      obtain ⟨rfl, rfl, rfl⟩ := hcs
      exact ⟨[], .inl ⟨rfl, rfl, rfl, rfl⟩⟩
    · simp [Value.cells] at hcs
      obtain ⟨rfl, rfl, rfl⟩ := hcs
      exact ⟨zs, .inr ⟨_, rfl, hl, hm, by simpa using hz, hcell, hwz⟩⟩
  obtain ⟨a2, rfl, rfl, rfl, w2⟩ := open_int Try.underlying3 (hval 2 3 v2 rfl rfl) h2
  clear hA0 hval0 hsz0 hsz
  refine (walk a0 len0 cap0 z0 b0 a1 len1 cap1 z1 a2 W w0 y0 w1 w2).mono fun e W' ⟨he, bel⟩ => ?_
  subst he
  exact ⟨_, rfl, _, _, _, [], _, [], hW', trodAll_mk1 (shut_bool Try.underlying4 _), (trodAll_cons_mk (Below.trod laidOut (by kernel_rfl) (of_decide_eq_true (by kernel_rfl)) k0 bel lt0) (trodAll_cons_mk (Below.trod laidOut (by kernel_rfl) (of_decide_eq_true (by kernel_rfl)) k1 bel lt1) (trodAll_cons_mk (shut_int Try.underlying3 w2) trodAll_mk0))), rfl, bel.frame _, fun h => by cases h⟩
theorem over : Rows.predictLeavesRow.holds Try.pinned (OpenSpec.ofChange Rows.predictLeavesSpec) :=
  OpenClaim.holds_of_wide 5 Try.f5 rfl rfl rfl rfl rfl rfl rfl ⟨rfl, rfl, rfl, rfl, rfl⟩ rfl rfl rfl rfl rfl (by kernel_rfl) Try.func5 (by kernel_rfl)
    (of_decide_eq_true (by kernel_rfl)) (by unfold Func.isWrapper; first | (rw [if_pos (by decide +kernel)]; kernel_rfl) | (rw [if_neg (by decide +kernel)]; exact ⟨rfl, rfl⟩))
    (fun os started H enc _ => lifted os started H enc)
theorem proved : Rows.PredictLeavesSaid := over
#print axioms proved
end Go.Proofs.Ytbigfkfnlbfkhaa.predictLeaves
namespace Go.Proofs.Ytbigfkfnlbfkhaa
/-- The row, under a short name, for the claim. -/
theorem predictLeaves_holds : Rows.PredictLeavesSaid := predictLeaves.proved
end Go.Proofs.Ytbigfkfnlbfkhaa
