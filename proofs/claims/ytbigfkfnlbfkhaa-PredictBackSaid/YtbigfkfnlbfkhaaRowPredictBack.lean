/- PredictBack, the row: the plain law joined with the walk; the model comes in as a struct by value. -/
import Derived.Test.YtbigfkfnlbfkhaaGPredx8
import Derived.Test.YtbigfkfnlbfkhaaMPredE
import Derived.Test.YtbigfkfnlbfkhaaRows
import Derived.Test.YtbigfkfnlbfkhaaWSized
import Derived.WalkKit
import Derived.ProofKit
import Derived.OpenShut
import Derived.ShutString
import Derived.ChangeOld
import Derived.Below
import Derived.SizedLaws
import Derived.Lib.SmallJoins
namespace Go.Proofs.Ytbigfkfnlbfkhaa.predictBack
open Go.ChangeShapes Go.WideShapes Go.ChangeAt Go.RowKit Go.Joins
open Go.ChangeMaps (open_string shut_string)
set_option linter.unusedVariables false
section
open Go.Proofs.Ytbigfkfnlbfkhaa.GPred Go.Proofs.YtbigfkfnlbfkhaaW.PrintWords Go.Proofs.YtbigfkfnlbfkhaaW.PrintLast Go.Proofs.YtbigfkfnlbfkhaaW.PrintMore Go.Proofs.Ytbigfkfnlbfkhaa.GPredF Go.Proofs.Ytbigfkfnlbfkhaa.MPred Go.Proofs.Ytbigfkfnlbfkhaa.HPred
theorem cut_eq (l : List Int) : shellaclaw07_cut.f l = some (l.take (mn (l.length : Int) 600).toNat) := by
  obtain ⟨m0, m1, _⟩ := mn_len l 600 (by omega)
  unfold shellaclaw07_cut.f
  rw [if_pos m0, if_pos m1]
theorem pure (c : List Int) (sh : Int) (l : List Int) (hc : c.length * 8 ≤ 140737488351232) : ∃ k, shellaclaw07_PredictBack.f k c sh l = some true := by
  refine Ev.rounds (g := fun k => shellaclaw07_PredictBack.f k c sh l) ?_
  unfold shellaclaw07_PredictBack.f
  refine Ev.bind known_ev (Ev.ite_pos rfl ?_)
  refine Ev.cbind (cut_eq l) ?_
  have ht := take_len l 600 (by omega)
  generalize l.take (mn (l.length : Int) 600).toNat = s at *
  have hs : s.length ≤ 1000000 := by omega
  refine Ev.cbind (of_eq c sh hc) ?_
  refine Ev.bind (residual_ev c s sh hs) ?_
  by_cases h0 : (resAll c sh s).2 = 0
  · refine Ev.ite_pos h0 ?_
    obtain ⟨b1, b2, b3⟩ := back_eq h0
    refine Ev.cbind (of_eq c sh hc) ?_
    refine Ev.ite_pos (by omega) (Ev.ite_pos (by omega) ?_)
    have hr := restore_ev c sh (s.take c.length) (resAll c sh s).1 (by omega)
    rw [b1] at hr
    rw [Int.toNat_natCast]
    refine Ev.bind hr ?_
    refine Ev.ite_pos rfl (Ev.ite_pos ?_ ?_)
    · have e : wrap64 ((s.length : Int) - (c.length : Int)) = (s.length : Int) - (c.length : Int) := w64 (by omega) (by omega)
      rw [e]; omega
    · refine Ev.bind (same_ev s s (by omega)) (Ev.const ?_)
      simp
  · refine Ev.ite_neg h0 (Ev.const ?_)
    have : (resAll c sh s).1 = [] := by
      unfold resAll resOut at h0 ⊢
      repeat' split
      all_goals first | rfl | (exfalso; simp_all; done) | skip
    rw [this]; rfl

theorem walk (a0 : Option Addr) (len0 cap0 : Nat) (z0 : List Int) (b0 : Int) (a1 : Option Addr) (len1 cap1 : Nat) (z1 : List Int) (w : World) (w0 : ((a0 = none ∧ len0 = 0 ∧ cap0 = 0 ∧ z0 = []) ∨ ∃ x, a0 = some x ∧ len0 ≤ cap0 ∧ cap0 ≤ maxLen ∧ z0.length = cap0 ∧ (∀ i, i < z0.length → w.cell? (x.add i) = some (.int .i64 (z0.getD i 0))) ∧ ∀ n ∈ z0, (Lit.int .i64 n).wf = true)) (y0 : len0 * 8 ≤ 140737488351232) (w1 : ((a1 = none ∧ len1 = 0 ∧ cap1 = 0 ∧ z1 = []) ∨ ∃ x, a1 = some x ∧ len1 ≤ cap1 ∧ cap1 ≤ maxLen ∧ z1.length = cap1 ∧ (∀ i, i < z1.length → w.cell? (x.add i) = some (.int .i64 (z1.getD i 0))) ∧ ∀ n ∈ z1, (Lit.int .i64 n).wf = true)) :
    Calls Try.prog 8 #[.agg #[.slice a0 len0 cap0, .int .i64 b0], .slice a1 len1 cap1] w fun e w' => e = .returned (.bool true) ∧ Below w.heap.size w w' := by
  obtain ⟨l0, rfl, hr0, hm0, hw0, hc0⟩ := ReadsInt.ofRowC w0
  obtain ⟨l1, rfl, hr1, hm1, hw1, hc1⟩ := ReadsInt.ofRowC w1
  obtain ⟨k, h⟩ := pure l0 b0 l1 y0
  refine (shellaclaw07_PredictBack.calls k _ _ l0 b0 _ _ l1 true w (Kd.C_of_reads (d := (0 : Int)) (h1 := fun _ => rfl) hr0) hc0 (Kd.C_of_reads (d := (0 : Int)) (h1 := fun _ => rfl) hr1) hc1 h).mono ?_
  rintro e w' ⟨rfl, hd⟩
  exact ⟨rfl, hd⟩
end
theorem own : ownKnob Try.prog.godebug = none := by kernel_rfl
theorem laidOut : laidOutB Try.prog = true := by kernel_rfl
theorem cells40 : Try.prog.cellsOf 40 = 2 := by kernel_rfl
def IsRow (k : IntKind) (w : World) (a : Option Addr) (len cap : Nat) (zs : List Int) : Prop :=
  (a = none ∧ len = 0 ∧ cap = 0 ∧ zs = []) ∨
  ∃ x, a = some x ∧ len ≤ cap ∧ cap ≤ maxLen ∧ zs.length = cap ∧ (∀ i, i < zs.length → w.cell? (x.add i) = some (.int k (zs.getD i 0))) ∧ ∀ n ∈ zs, (Lit.int k n).wf = true
set_option maxRecDepth 100000 in
theorem lifted (os : Os) (started : os.Started) (H : Type) (enc : TypeId × Value → H) :
    ReturnsInHanded {} Try.checked os 8 .any (Rows.predictBackSpec.pre6 enc Try.prog Try.f8 Rows.predictBackRow.domain false) (Rows.predictBackSpec.post enc Try.prog Try.f8 false true false false) := by
  refine returnsInHanded_of_change_sized (C := Try.checked) own started (by kernel_rfl) Try.func8
    (ChangeSpec.witness6 (enc := enc) (C := Try.checked) false ⟨#[], #[.agg #[.slice none 0 0, .int .i64 0], .slice none 0 0], []⟩ 8 (by kernel_rfl) (by kernel_rfl) (by kernel_rfl) (by kernel_rfl)) ?_
  intro W base args ds gs before hval0 hW hcnd hsz0 _
  have hsz : (DataW.weightsEach Try.prog (Try.f8.params.toList ++ Rows.predictBackSpec.plain.varTypes Try.prog) (ds ++ gs)).all (· ≤ reachBytes) = true := hsz0
  have hval : ∀ (j : Nat) t v, Try.f8.params[j]? = some t → args[j]? = some v → Value.okWide Try.prog W .any base t v := hval0
  have hW' := hW
  obtain ⟨p, q, hA0, hV, rfl, hfz, hnd⟩ := hW
  have hA : DataW.TrodAll enc Try.prog W 0 (fun _ => true) true Try.f8.params.toList args.toList ds p := hA0
  rw [Try.params8] at hA hval hsz
  obtain ⟨v0, vs0, d0, ds0, p0, q0, hargs, rfl, rfl, h0, r0⟩ := trodAll_cons hA
  obtain ⟨v1, vs1, d1, ds1, p1, q1, rfl, rfl, rfl, h1, r1⟩ := trodAll_cons r0
  obtain ⟨rfl, rfl, rfl⟩ := trodAll_nil r1
  obtain rfl : args = #[v0, v1] := by cases args; simp_all
  obtain ⟨rfl, rfl⟩ := trodVars_none hV
  have k0 := h0
  have lt0 : ∀ x ∈ p0, x.block < W.heap.size := by obtain ⟨m, hm⟩ := k0; exact DataW.trod_lt m _ _ _ hm
  obtain ⟨a0, len0, cap0, z0, b0, hv0, w0, y0⟩ : ∃ a len cap zs b, v0 = .agg #[.slice a len cap, .int .i64 b] ∧ IsRow .i64 W a len cap zs ∧ len * 8 ≤ 140737488351232 := by
    obtain ⟨c0, c1, y0, y1, m, hv, hd, hp, hy0, hy1⟩ := open_agg2 Try.underlying40 (by kernel_rfl) cells40 (hval 0 40 v0 rfl rfl) h0
    obtain ⟨a, l, c, hc0⟩ := slice_form Try.underlying22 hy0
    obtain ⟨b, e1, hb1, wb⟩ := DataW.trod_int Try.underlying3 hy1
    simp only [List.cons.injEq, and_true] at hc0 e1
    subst hc0 e1
    have hT : DataW.Trod enc Try.prog W 0 (fun _ => true) true 22 (.slice a l c) y0.1 y0.2 := ⟨m, by simpa [Value.cells] using hy0⟩
    have hsz2 : (DataW.weightsEach Try.prog [22, 3] [y0.1, y1.1]).all (· ≤ reachBytes) = true := by
      refine List.all_eq_true.2 fun x hx => ?_
      refine List.all_eq_true.1 hsz x (DataW.weights_mem_each (j := 0) (t := 40) rfl (show _ = some d0 from rfl) x ?_)
      rw [hd]
      simp only [DataW.weights, Try.underlying40]
      exact hx
    have y : l * 8 ≤ 140737488351232 := Go.Proofs.YtbigfkfnlbfkhaaW.PrintWords.sized_ints hsz2 (j := 0) (t := 22) rfl rfl Try.underlying22 Try.underlying3 (by kernel_rfl) (by kernel_rfl) hT
    rcases open_ints Try.underlying22 Try.underlying3 (by kernel_rfl) hy0 with ⟨hcs, _⟩ | ⟨x, l', c', zs, hcs, _, hl, hm, hz, _, hcell, hwz⟩
    · simp at hcs
      obtain ⟨rfl, rfl, rfl⟩ := hcs
      exact ⟨_, _, _, [], b, hv, .inl ⟨rfl, rfl, rfl, rfl⟩, y⟩
    · simp at hcs
      obtain ⟨rfl, rfl, rfl⟩ := hcs
      exact ⟨_, _, _, zs, b, hv, .inr ⟨_, rfl, hl, hm, by simpa using hz, hcell, hwz⟩, y⟩
  subst hv0
  obtain ⟨a1, len1, cap1, rfl⟩ := okWide_slice Try.underlying22 (hval 1 22 v1 rfl rfl)
  have k1 := h1
  have lt1 : ∀ x ∈ p1, x.block < W.heap.size := by obtain ⟨m, hm⟩ := k1; exact DataW.trod_lt m _ _ _ hm
  obtain ⟨z1, w1⟩ : ∃ zs, IsRow .i64 W a1 len1 cap1 zs := by
    obtain ⟨fuel, hf⟩ := h1
    rcases open_ints Try.underlying22 Try.underlying3 (by kernel_rfl) hf with ⟨hcs, _⟩ | ⟨x, l, c, zs, hcs, _, hl, hm, hz, _, hcell, hwz⟩
    · simp [Value.cells] at hcs
      obtain ⟨rfl, rfl, rfl⟩ := hcs
      exact ⟨[], .inl ⟨rfl, rfl, rfl, rfl⟩⟩
    · simp [Value.cells] at hcs
      obtain ⟨rfl, rfl, rfl⟩ := hcs
      exact ⟨zs, .inr ⟨_, rfl, hl, hm, by simpa using hz, hcell, hwz⟩⟩
  clear hA0 hval0 hsz0 hsz
  refine (walk a0 len0 cap0 z0 b0 a1 len1 cap1 z1 W w0 y0 w1).mono fun e W' ⟨he, bel⟩ => ?_
  subst he
  exact ⟨_, rfl, _, _, _, [], _, [], hW', trodAll_mk1 (shut_bool Try.underlying4 _), (trodAll_cons_mk (Below.trod laidOut (by kernel_rfl) (of_decide_eq_true (by kernel_rfl)) k0 bel lt0) (trodAll_cons_mk (Below.trod laidOut (by kernel_rfl) (of_decide_eq_true (by kernel_rfl)) k1 bel lt1) trodAll_mk0)), rfl, bel.frame _, fun h => by cases h⟩
theorem over : Rows.predictBackRow.holds Try.pinned (OpenSpec.ofChange Rows.predictBackSpec) :=
  OpenClaim.holds_of_wide 8 Try.f8 rfl rfl rfl rfl rfl rfl rfl ⟨rfl, rfl, rfl, rfl, rfl⟩ rfl rfl rfl rfl rfl (by kernel_rfl) Try.func8 (by kernel_rfl)
    (of_decide_eq_true (by kernel_rfl)) (by unfold Func.isWrapper; first | (rw [if_pos (by decide +kernel)]; kernel_rfl) | (rw [if_neg (by decide +kernel)]; exact ⟨rfl, rfl⟩))
    (fun os started H enc _ => lifted os started H enc)
theorem proved : Rows.PredictBackSaid := over
#print axioms proved
end Go.Proofs.Ytbigfkfnlbfkhaa.predictBack
namespace Go.Proofs.Ytbigfkfnlbfkhaa
/-- The row, under a short name, for the claim. -/
theorem predictBack_holds : Rows.PredictBackSaid := predictBack.proved
end Go.Proofs.Ytbigfkfnlbfkhaa
