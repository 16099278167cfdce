/- BitsPieces, the row: the plain law joined with the walk. -/
import Derived.Test.YtbigfkfnlbfkhaaHBitsI
import Derived.Test.YtbigfkfnlbfkhaaRows
import Derived.Test.YtbigfkfnlbfkhaaWSized
import Derived.WalkKit
import Derived.ProofKit
import Derived.OpenShut
import Derived.ShutString
import Derived.ChangeOld
import Derived.Below
import Derived.SizedLaws
import Derived.Lib.SmallJoins
namespace Go.Proofs.Ytbigfkfnlbfkhaa.bitsPieces
open Go.ChangeShapes Go.WideShapes Go.ChangeAt Go.RowKit Go.Joins
open Go.ChangeMaps (open_string shut_string)
set_option linter.unusedVariables false
section
open Go.Proofs.YtbigfkfnlbfkhaaW.PrintWords Go.Proofs.YtbigfkfnlbfkhaaW.PrintLast Go.Proofs.YtbigfkfnlbfkhaaW.PrintMore Go.Proofs.Ytbigfkfnlbfkhaa.HBase Go.Proofs.Ytbigfkfnlbfkhaa.MBits Go.Proofs.Ytbigfkfnlbfkhaa.HBits
theorem pow_split {i j : Nat} (h : i + j = 32) : (2 : Int) ^ i * 2 ^ j = 4294967296 := by
  rw [← Int.pow_add, h]; decide
theorem quo_lt {n : Int} {i j : Nat} (h : i + j = 32) (h1 : n < 4294967296) : n / 2 ^ j < 2 ^ i := by
  refine Int.ediv_lt_of_lt_mul (pow_pos2 j) ?_
  rw [pow_split h]
  exact h1
theorem pieces_facts (N : Int) (n0 : 0 ≤ N) (n1 : N < 4294967296) (o : Nat) (ho : o ≤ 32) :
    valAt (pack (bitsOf N 32)) 0 o = N / 2 ^ (32 - o) ∧ valAt (pack (bitsOf N 32)) o (32 - o) = N % 2 ^ (32 - o) := by
  constructor
  · rw [val_bits N 32 0 o (by omega), Nat.sub_zero]
    exact Int.emod_eq_of_lt (Int.ediv_nonneg n0 (by have := pow_pos2 (32 - o); omega)) (quo_lt (by omega) n1)
  · rw [val_bits N 32 o (32 - o) (by omega), show 32 - o - (32 - o) = 0 by omega]
    simp
theorem walk (a0 a1 a2 : Int) (w : World) (w0 : (Lit.int .i64 a0).wf = true) (w1 : (Lit.int .i64 a1).wf = true) (w2 : (Lit.int .i64 a2).wf = true) :
    Calls Try.prog 10 #[.int .i64 a0, .int .i64 a1, .int .i64 a2] w fun e w' => e = .returned (.bool true) ∧ Below w.heap.size w w' := by
  obtain ⟨n0, n1⟩ := mod_k a0 4294967296 (by omega) (by omega)
  obtain ⟨c0, c1⟩ := mod_k a1 33 (by omega) (by omega)
  obtain ⟨o0, o1⟩ := mod_k a2 33 (by omega) (by omega)
  obtain ⟨N, hN⟩ : ∃ N, wrap64 (Int.tmod (IntKind.u64.wrap a0) 4294967296) = N := ⟨_, rfl⟩
  obtain ⟨c, hC⟩ : ∃ c : Nat, wrap64 (Int.tmod (IntKind.u64.wrap a1) 33) = (c : Int) := ⟨_, (Int.toNat_of_nonneg c0).symm⟩
  obtain ⟨o, hO⟩ : ∃ o : Nat, wrap64 (Int.tmod (IntKind.u64.wrap a2) 33) = (o : Int) := ⟨_, (Int.toNat_of_nonneg o0).symm⟩
  rw [hN] at n0 n1
  rw [hC] at c0 c1
  rw [hO] at o0 o1
  have hc : c ≤ 32 := by omega
  have ho : o ≤ 32 := by omega
  obtain ⟨va, vb⟩ := pieces_facts N n0 n1 o ho
  have pz := pow32 (k := 32 - c) (by omega)
  have pz0 := pow_pos2 (32 - c)
  have py0 := pow_pos2 (32 - o)
  have hsum : N / 2 ^ (32 - o) * 2 ^ (32 - o) + N % 2 ^ (32 - o) = N := by rw [Int.mul_comm]; exact Int.mul_ediv_add_emod N _
  have hr0 := Int.emod_nonneg N (show (2 : Int) ^ (32 - o) ≠ 0 by omega)
  have hw : ∀ m : Int, 0 ≤ m → m < 2 ^ 62 → IntKind.i64.wrap m = m := fun m a c => by rw [IntKind.wrap_i64]; omega
  have hq0 : 0 ≤ N / 2 ^ (32 - o) * 2 ^ (32 - o) := Int.mul_nonneg (Int.ediv_nonneg n0 (by omega)) (by omega)
  refine pieces_core a0 a1 a2 N c o ((32 - c : Nat) : Int) ((32 - o : Nat) : Int) (N / 2 ^ (32 - c)) (2 ^ (32 - c)) (2 ^ (32 - c) - 1) (N % 2 ^ (32 - c)) (N / 2 ^ (32 - o)) (N % 2 ^ (32 - o)) (N / 2 ^ (32 - o) * 2 ^ (32 - o)) N c o (bitsOf N 32) w
    hN hC hO ?_ (by omega) ?_ (by omega) ?_ ?_ ?_ ?_ ?_ ?_ (by simp) rfl hc rfl ho rfl rfl n0 (by simpa using n1) (Int.ediv_nonneg n0 (by omega)) (quo_lt (by omega) n1) (Int.emod_nonneg N (by omega)) (Int.emod_lt_of_pos N pz0) rfl ?_ va vb
  · unfold wrap64; omega
  · unfold wrap64; omega
  · rw [Int.toNat_natCast, Nat.min_eq_left (by omega)]
  · rw [Int.toNat_natCast, Nat.min_eq_left (by omega)]; unfold wrap64; omega
  · unfold wrap64; omega
  · exact Go.bits_mask .i64 62 (by decide) hw (32 - c) (by omega) N n0 (by omega)
  · rw [Int.toNat_natCast, Nat.min_eq_left (by omega)]
    generalize N / 2 ^ (32 - o) * 2 ^ (32 - o) = x at *
    generalize N % 2 ^ (32 - o) = y at *
    unfold wrap64
    omega
  · rw [hsum]; unfold wrap64; omega
  · rw [bitsOf_two N (32 - c) c, show c + (32 - c) = 32 by omega]

end
theorem own : ownKnob Try.prog.godebug = none := by kernel_rfl
theorem laidOut : laidOutB Try.prog = true := by kernel_rfl
theorem cells40 : Try.prog.cellsOf 40 = 2 := by kernel_rfl
def IsRow (k : IntKind) (w : World) (a : Option Addr) (len cap : Nat) (zs : List Int) : Prop :=
  (a = none ∧ len = 0 ∧ cap = 0 ∧ zs = []) ∨
  ∃ x, a = some x ∧ len ≤ cap ∧ cap ≤ maxLen ∧ zs.length = cap ∧ (∀ i, i < zs.length → w.cell? (x.add i) = some (.int k (zs.getD i 0))) ∧ ∀ n ∈ zs, (Lit.int k n).wf = true
set_option maxRecDepth 100000 in
theorem lifted (os : Os) (started : os.Started) (H : Type) (enc : TypeId × Value → H) :
    ReturnsInHanded {} Try.checked os 10 .any (Rows.bitsPiecesSpec.pre6 enc Try.prog Try.f10 Rows.bitsPiecesRow.domain false) (Rows.bitsPiecesSpec.post enc Try.prog Try.f10 false true false false) := by
  refine returnsInHanded_of_change_sized (C := Try.checked) own started (by kernel_rfl) Try.func10
    (ChangeSpec.witness6 (enc := enc) (C := Try.checked) false ⟨#[], #[.int .i64 0, .int .i64 0, .int .i64 0], []⟩ 8 (by kernel_rfl) (by kernel_rfl) (by kernel_rfl) (by kernel_rfl)) ?_
  intro W base args ds gs before hval0 hW hcnd hsz0 _
  have hsz : (DataW.weightsEach Try.prog (Try.f10.params.toList ++ Rows.bitsPiecesSpec.plain.varTypes Try.prog) (ds ++ gs)).all (· ≤ reachBytes) = true := hsz0
  have hval : ∀ (j : Nat) t v, Try.f10.params[j]? = some t → args[j]? = some v → Value.okWide Try.prog W .any base t v := hval0
  have hW' := hW
  obtain ⟨p, q, hA0, hV, rfl, hfz, hnd⟩ := hW
  have hA : DataW.TrodAll enc Try.prog W 0 (fun _ => true) true Try.f10.params.toList args.toList ds p := hA0
  rw [Try.params10] at hA hval hsz
  obtain ⟨v0, vs0, d0, ds0, p0, q0, hargs, rfl, rfl, h0, r0⟩ := trodAll_cons hA
  obtain ⟨v1, vs1, d1, ds1, p1, q1, rfl, rfl, rfl, h1, r1⟩ := trodAll_cons r0
  obtain ⟨v2, vs2, d2, ds2, p2, q2, rfl, rfl, rfl, h2, r2⟩ := trodAll_cons r1
  obtain ⟨rfl, rfl, rfl⟩ := trodAll_nil r2
  obtain rfl : args = #[v0, v1, v2] := by cases args; simp_all
  obtain ⟨rfl, rfl⟩ := trodVars_none hV
  obtain ⟨a0, rfl, rfl, rfl, w0⟩ := open_int Try.underlying3 (hval 0 3 v0 rfl rfl) h0
  obtain ⟨a1, rfl, rfl, rfl, w1⟩ := open_int Try.underlying3 (hval 1 3 v1 rfl rfl) h1
  obtain ⟨a2, rfl, rfl, rfl, w2⟩ := open_int Try.underlying3 (hval 2 3 v2 rfl rfl) h2
  clear hA0 hval0 hsz0 hsz
  refine (walk a0 a1 a2 W w0 w1 w2).mono fun e W' ⟨he, bel⟩ => ?_
  subst he
  exact ⟨_, rfl, _, _, _, [], _, [], hW', trodAll_mk1 (shut_bool Try.underlying4 _), (trodAll_cons_mk (shut_int Try.underlying3 w0) (trodAll_cons_mk (shut_int Try.underlying3 w1) (trodAll_cons_mk (shut_int Try.underlying3 w2) trodAll_mk0))), rfl, bel.frame _, fun h => by cases h⟩
theorem over : Rows.bitsPiecesRow.holds Try.pinned (OpenSpec.ofChange Rows.bitsPiecesSpec) :=
  OpenClaim.holds_of_wide 10 Try.f10 rfl rfl rfl rfl rfl rfl rfl ⟨rfl, rfl, rfl, rfl, rfl⟩ rfl rfl rfl rfl rfl (by kernel_rfl) Try.func10 (by kernel_rfl)
    (of_decide_eq_true (by kernel_rfl)) (by unfold Func.isWrapper; first | (rw [if_pos (by decide +kernel)]; kernel_rfl) | (rw [if_neg (by decide +kernel)]; exact ⟨rfl, rfl⟩))
    (fun os started H enc _ => lifted os started H enc)
theorem proved : Rows.BitsPiecesSaid := over
#print axioms proved
end Go.Proofs.Ytbigfkfnlbfkhaa.bitsPieces
namespace Go.Proofs.Ytbigfkfnlbfkhaa
/-- The row, under a short name, for the claim. -/
theorem bitsPieces_holds : Rows.BitsPiecesSaid := bitsPieces.proved
end Go.Proofs.Ytbigfkfnlbfkhaa
