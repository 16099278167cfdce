/- CodeRuns, the plain law: numbers' bytes, one behind the other, are read as these numbers to the last byte; cut off anywhere they end too soon, or between two; for all numbers and cuts. -/
import Derived.Test.YtbigfkfnlbfkhaaGCodex2
import Derived.Test.YtbigfkfnlbfkhaaMCode
namespace Go.Proofs.Ytbigfkfnlbfkhaa.Pure
open Go.RowKit Go.Proofs.Ytbigfkfnlbfkhaa.GCode Go.Proofs.YtbigfkfnlbfkhaaW.PrintWords Go.Proofs.YtbigfkfnlbfkhaaW.PrintLast Go.Proofs.Ytbigfkfnlbfkhaa.MCode Go.Proofs.Ytbigfkfnlbfkhaa.HCode Go.Proofs.Ytbigfkfnlbfkhaa.GCodeA

def allOf (ns : List Int) : List Int := ns.flatMap enc
def endsTail (ns : List Int) : List Bool := ns.flatMap fun n => List.replicate (kk n - 1) false ++ [true]
def endsOf (ns : List Int) : List Bool := true :: endsTail ns
def Nums (ns : List Int) : Prop := ∀ n ∈ ns, 0 ≤ n ∧ n < 68719476736

theorem allOf_snoc (ns : List Int) (n : Int) : allOf (ns ++ [n]) = allOf ns ++ enc n := by simp [allOf]
theorem endsOf_snoc (ns : List Int) (n : Int) : endsOf (ns ++ [n]) = endsOf ns ++ List.replicate (kk n - 1) false ++ [true] := by simp [endsOf, endsTail]
theorem ends_len : ∀ ns : List Int, (endsTail ns).length = (allOf ns).length
  | [] => rfl
  | n :: ns => by
    have ih := ends_len ns
    have := kk_rng n
    simp only [endsTail, allOf, List.flatMap_cons, List.length_append, List.length_replicate, List.length_singleton, enc_len] at ih ⊢
    omega
theorem endsOf_len (ns : List Int) : (endsOf ns).length = (allOf ns).length + 1 := by simp [endsOf, ends_len]
theorem allOf_bd : ∀ ns : List Int, (allOf ns).length ≤ 7 * ns.length
  | [] => by simp [allOf]
  | n :: ns => by
    have ih := allOf_bd ns
    have := kk_rng n
    simp only [allOf, List.flatMap_cons, List.length_append, enc_len, List.length_cons] at ih ⊢
    omega

theorem ends_zero (ns : List Int) : (endsOf ns).getD 0 false = true := rfl
theorem ends_in (n : Int) (ns : List Int) (c : Nat) (h0 : 0 < c) (h1 : c < kk n) : (endsOf (n :: ns)).getD c false = false := by
  obtain ⟨j, rfl⟩ : ∃ j, c = j + 1 := ⟨c - 1, by omega⟩
  unfold endsOf endsTail
  rw [List.flatMap_cons, List.append_assoc]
  simp only [List.getD_eq_getElem?_getD, List.getElem?_cons_succ]
  rw [List.getElem?_append_left (by simp; omega), List.getElem?_replicate]
  rw [if_pos (by omega)]
  rfl
theorem ends_next (n : Int) (ns : List Int) (c : Nat) (h1 : kk n ≤ c) : (endsOf (n :: ns)).getD c false = (endsOf ns).getD (c - kk n) false := by
  have := kk_rng n
  obtain ⟨j, rfl⟩ : ∃ j, c = j + 1 := ⟨c - 1, by omega⟩
  unfold endsOf endsTail
  rw [List.flatMap_cons, List.append_assoc]
  simp only [List.getD_eq_getElem?_getD, List.getElem?_cons_succ]
  rw [List.getElem?_append_right (by simp; omega)]
  simp only [List.length_replicate, List.singleton_append]
  rw [show j - (kk n - 1) = j + 1 - kk n by omega]

theorem begins_take (n : Int) (ns : List Int) (c : Nat) (h0 : 0 < c) (hc : c ≤ (allOf (n :: ns)).length) : Begins ((allOf (n :: ns)).take c) n := by
  refine ⟨by rw [List.length_take]; omega, fun j h1 h2 => ?_⟩
  rw [List.length_take] at h1
  have hl : j < (enc n).length := by rw [enc_len]; exact h2
  rw [MCode.rd_nat _ j (by rw [List.length_take]; exact h1), MCode.rd_nat _ j hl, List.getElem_take]
  simp only [allOf, List.flatMap_cons]
  rw [List.getElem_append_left hl]

theorem run_ev (cut : Int) (want : List Int) (ends : List Bool) (h0 : 0 ≤ cut) (h1 : cut < (ends.length : Int)) (hw : want.length ≤ 1000) :
    ∀ (ns pre : List Int) (c : Nat), want = pre ++ ns → Nums ns → c ≤ (allOf ns).length → (endsOf ns).getD c false = rdOf false ends cut →
      Ev (fun k => shellaclaw05_CodeRuns.l2 k cut want ends ((allOf ns).take c) pre.length) true := by
  have stop : ∀ (L : List Int) (i : Int), L.length = 0 → rdOf false ends cut = true → Ev (fun k => shellaclaw05_CodeRuns.l2 k cut want ends L i) true := by
    intro L i hL he
    refine ⟨1, fun k hk => ?_⟩
    obtain ⟨k, rfl⟩ : ∃ m, k = m + 1 := ⟨k - 1, by omega⟩
    show shellaclaw05_CodeRuns.l2 (k + 1) cut want ends L i = _
    simp only [shellaclaw05_CodeRuns.l2]
    rw [if_neg (by omega), if_pos h0, if_pos h1, he]
  intro ns
  induction ns with
  | nil =>
    intro pre c hp hn hc he
    have hc0 : c = 0 := by simpa [allOf] using hc
    subst hc0
    exact stop _ _ (by simp) (by rw [← he]; rfl)
  | cons n ns ih =>
    intro pre c hp hn hc he
    rcases Nat.eq_zero_or_pos c with hc0 | hc0
    · subst hc0
      exact stop _ _ (by simp) (by rw [← he]; rfl)
    · obtain ⟨n0, n1⟩ := hn n (by simp)
      have hk := kk_rng n
      have hL : ((allOf (n :: ns)).take c).length = c := by rw [List.length_take]; omega
      obtain ⟨K1, hK1⟩ := get_ev _ n n0 n1 (begins_take n ns c hc0 hc)
      dsimp only at hK1
      rw [hL] at hK1
      have hpl : pre.length < want.length := by rw [hp]; simp
      have hrd : rd want pre.length = n := by
        rw [MCode.rd_nat _ _ hpl]
        simp [hp]
      by_cases hkc : kk n ≤ c
      · rw [if_pos hkc] at hK1
        obtain ⟨K2, hK2⟩ := ih (pre ++ [n]) (c - kk n) (by rw [hp]; simp) (fun x hx => hn x (by simp [hx])) (by
          simp only [allOf, List.flatMap_cons, List.length_append, enc_len] at hc
          simp only [allOf]
          omega) (by rw [← he]; exact (ends_next n ns c hkc).symm)
        dsimp only at hK2
        refine ⟨K1 + K2 + 1, fun k hk' => ?_⟩
        obtain ⟨k, rfl⟩ : ∃ m, k = m + 1 := ⟨k - 1, by omega⟩
        have k1 := hK1 k (by omega)
        have k2 := hK2 k (by omega)
        have hd : ((allOf (n :: ns)).take c).drop (kk n) = (allOf ns).take (c - kk n) := by
          simp only [allOf, List.flatMap_cons]
          rw [List.drop_take, List.drop_append_of_le_length (by rw [enc_len]; omega), List.drop_of_length_le (by rw [enc_len]; omega)]
          simp
        have e5 : wrap64 ((pre.length : Int) + 1) = ((pre ++ [n]).length : Int) := by rw [MCode.w64 (by omega) (by omega)]; simp
        have c1 : (((allOf (n :: ns)).take c).length : Int) > 0 := by omega
        have c2 : ¬ (pre.length : Int) ≥ (want.length : Int) := by omega
        have c3 : (0 : Int) ≤ (pre.length : Int) := by omega
        have c4 : (pre.length : Int) < (want.length : Int) := by omega
        have c5 : ¬ (kk n : Int) < 1 := by omega
        have c6 : ¬ (kk n : Int) > 7 := by omega
        have c7 : (0 : Int) ≤ (kk n : Int) := by omega
        have c8 : (kk n : Int) ≤ (((allOf (n :: ns)).take c).length : Int) := by omega
        show shellaclaw05_CodeRuns.l2 (k + 1) cut want ends ((allOf (n :: ns)).take c) pre.length = _
        simp only [shellaclaw05_CodeRuns.l2]
        rw [if_pos c1, k1]
        simp only [Option.bind_some]
        rw [if_pos trivial, if_neg c2, if_pos c3, if_pos c4, hrd, if_pos rfl, if_neg c5, if_neg c6, if_pos c7, if_pos c8, Int.toNat_natCast, hd, e5]
        exact k2
      · rw [if_neg hkc] at hK1
        refine ⟨K1 + 1, fun k hk' => ?_⟩
        obtain ⟨k, rfl⟩ : ∃ m, k = m + 1 := ⟨k - 1, by omega⟩
        have k1 := hK1 k (by omega)
        have c1 : (((allOf (n :: ns)).take c).length : Int) > 0 := by omega
        rw [ends_in n ns c hc0 (by omega)] at he
        show shellaclaw05_CodeRuns.l2 (k + 1) cut want ends ((allOf (n :: ns)).take c) pre.length = _
        simp only [shellaclaw05_CodeRuns.l2]
        rw [if_pos c1, k1]
        simp only [Option.bind_some]
        rw [if_neg (by decide), if_pos trivial, if_pos h0, if_pos h1, ← he]
        rfl

/-- The ends behind one more number. -/
theorem ends_ev (l0 : List Int) (a1 : Int) (ns : List Int) (n : Int) (hns : ns.length ≤ 1000) (want : List Int) (i : Int) (r : Bool)
    (h : Ev (fun k => shellaclaw05_CodeRuns.l0 k l0 a1 (allOf ns ++ enc n) want (endsOf (ns ++ [n])) (wrap64 (i + 1))) r) :
    Ev (fun k => shellaclaw05_CodeRuns.l1 k l0 a1 (allOf ns ++ enc n) want (endsOf ns) i) r := by
  have hk := kk_rng n
  have hb := allOf_bd ns
  have main : ∀ d t : Nat, kk n - 1 - t = d → t ≤ kk n - 1 → Ev (fun k => shellaclaw05_CodeRuns.l1 k l0 a1 (allOf ns ++ enc n) want (endsOf ns ++ List.replicate t false) i) r := by
    intro d
    induction d with
    | zero =>
      intro t hd ht
      obtain rfl : t = kk n - 1 := by omega
      obtain ⟨K, hK⟩ := h
      dsimp only at hK
      refine ⟨K + 2, fun k hk' => ?_⟩
      obtain ⟨k, rfl⟩ : ∃ m, k = m + 1 + 1 := ⟨k - 2, by omega⟩
      have k1 := hK k (by omega)
      have el : (endsOf ns ++ List.replicate (kk n - 1) false).length = (allOf ns ++ enc n).length := by simp [endsOf_len, enc_len]; omega
      have c1 : ((endsOf ns ++ List.replicate (kk n - 1) false).length : Int) ≤ ((allOf ns ++ enc n).length : Int) := by omega
      have c2 : (endsOf ns ++ List.replicate (kk n - 1) false).length < 140737488355328 := by rw [el]; simp [enc_len]; omega
      have c3 : (((endsOf ns ++ List.replicate (kk n - 1) false).length : Int) == ((allOf ns ++ enc n).length : Int)) = true := by rw [el]; simp
      have c4 : ¬ ((endsOf (ns ++ [n])).length : Int) ≤ ((allOf ns ++ enc n).length : Int) := by rw [endsOf_len, allOf_snoc]; omega
      show shellaclaw05_CodeRuns.l1 (k + 1 + 1) l0 a1 (allOf ns ++ enc n) want (endsOf ns ++ List.replicate (kk n - 1) false) i = _
      rw [shellaclaw05_CodeRuns.l1, if_pos c1, if_pos c2, c3, ← endsOf_snoc, shellaclaw05_CodeRuns.l1, if_neg c4]
      exact k1
    | succ d ih =>
      intro t hd ht
      obtain ⟨K, hK⟩ := ih (t + 1) (by omega) (by omega)
      dsimp only at hK
      refine ⟨K + 1, fun k hk' => ?_⟩
      obtain ⟨k, rfl⟩ : ∃ m, k = m + 1 := ⟨k - 1, by omega⟩
      have k1 := hK k (by omega)
      have l1 : (endsOf ns ++ List.replicate t false).length = (allOf ns).length + 1 + t := by simp [endsOf_len]
      have l2 : (allOf ns ++ enc n).length = (allOf ns).length + kk n := by simp [enc_len]
      have c1 : ((endsOf ns ++ List.replicate t false).length : Int) ≤ ((allOf ns ++ enc n).length : Int) := by omega
      have c2 : (endsOf ns ++ List.replicate t false).length < 140737488355328 := by omega
      have c3 : (((endsOf ns ++ List.replicate t false).length : Int) == ((allOf ns ++ enc n).length : Int)) = false := by
        apply beq_eq_false_iff_ne.2
        omega
      show shellaclaw05_CodeRuns.l1 (k + 1) l0 a1 (allOf ns ++ enc n) want (endsOf ns ++ List.replicate t false) i = _
      rw [shellaclaw05_CodeRuns.l1, if_pos c1, if_pos c2, c3, List.append_assoc, ← List.replicate_succ']
      exact k1
  simpa using main (kk n - 1) 0 (by omega) (by omega)

theorem mod_rng (a n : Int) (h0 : 0 < n) (h1 : n < 9223372036854775807) : 0 ≤ wrap64 (Int.tmod (IntKind.u64.wrap a) n) ∧ wrap64 (Int.tmod (IntKind.u64.wrap a) n) < n := by
  have hu : 0 ≤ IntKind.u64.wrap a := by
    rw [IntKind.wrap_u64]
    exact Int.emod_nonneg _ (by omega)
  have ht : Int.tmod (IntKind.u64.wrap a) n = IntKind.u64.wrap a % n := Int.tmod_eq_emod_of_nonneg hu
  have h2 := Int.emod_nonneg (IntKind.u64.wrap a) (show n ≠ 0 by omega)
  have h3 := Int.emod_lt_of_pos (IntKind.u64.wrap a) h0
  rw [ht, MCode.w64 (by omega) (by omega)]
  exact ⟨h2, h3⟩

/-- The bytes are there: the cut, and the reading. -/
theorem cut_ev (l0 : List Int) (a1 : Int) (ns : List Int) (hns : ns.length ≤ 1000) (hn : Nums ns) (i : Int) : Ev (fun k => shellaclaw05_CodeRuns.j1 k l0 a1 (allOf ns) ns (endsOf ns) i false) true := by
  have hb := allOf_bd ns
  have e1 : wrap64 (((allOf ns).length : Int) + 1) = ((allOf ns).length : Int) + 1 := MCode.w64 (by omega) (by omega)
  have e2 : IntKind.u64.wrap (((allOf ns).length : Int) + 1) = ((allOf ns).length : Int) + 1 := by rw [IntKind.wrap_u64]; omega
  obtain ⟨r0, r1⟩ := mod_rng a1 (((allOf ns).length : Int) + 1) (by omega) (by omega)
  generalize hc : wrap64 (Int.tmod (IntKind.u64.wrap a1) (((allOf ns).length : Int) + 1)) = c at *
  have HC := Aside0.mk hc
  clear hc
  obtain ⟨m, rfl⟩ := Int.eq_ofNat_of_zero_le r0
  have hel : ((m : Nat) : Int) < ((endsOf ns).length : Int) := by rw [endsOf_len]; omega
  obtain ⟨K, hK⟩ := run_ev (m : Nat) ns (endsOf ns) r0 hel (by omega) ns [] m rfl hn (by omega) (by
    unfold rdOf
    rw [Int.toNat_natCast])
  dsimp only at hK
  refine ⟨K + 1, fun k hk' => ?_⟩
  obtain ⟨k, rfl⟩ : ∃ m, k = m + 1 := ⟨k - 1, by omega⟩
  have k1 := hK k (by omega)
  have c1 : ¬ ((allOf ns).length : Int) + 1 = 0 := by omega
  have c2 : ((m : Nat) : Int) ≤ ((allOf ns).length : Int) := by omega
  show shellaclaw05_CodeRuns.j1 (k + 1) l0 a1 (allOf ns) ns (endsOf ns) i false = _
  rw [shellaclaw05_CodeRuns.j1]
  simp only [Bool.false_eq_true, if_false]
  rw [e1, e2, if_neg c1, HC.out, if_pos r0, if_pos c2, Int.toNat_natCast]
  exact k1

def num (x : Int) : Int := wrap64 (Int.tmod (IntKind.u64.wrap x) 68719476736)
def numTo (l : List Int) (t : Nat) : List Int := (List.range t).map fun u => num (rd l (u : Nat))
theorem numTo_succ (l : List Int) (t : Nat) : numTo l (t + 1) = numTo l t ++ [num (rd l (t : Nat))] := by simp [numTo, List.range_succ]
theorem numTo_len (l : List Int) (t : Nat) : (numTo l t).length = t := by simp [numTo]
theorem numTo_nums (l : List Int) (t : Nat) : Nums (numTo l t) := by
  intro n hn
  obtain ⟨u, _, rfl⟩ := List.mem_map.1 hn
  exact mod_rng _ _ (by omega) (by omega)

theorem gather_ev (l0 : List Int) (a1 : Int) : ∀ d t : Nat, 61 - t = d → t ≤ 60 → t ≤ l0.length → Ev (fun k => shellaclaw05_CodeRuns.l0 k l0 a1 (allOf (numTo l0 t)) (numTo l0 t) (endsOf (numTo l0 t)) t) true := by
  intro d
  induction d with
  | zero => intro t hd ht; omega
  | succ d ih =>
    intro t hd ht hl
    have hcut := cut_ev l0 a1 (numTo l0 t) (by rw [numTo_len]; omega) (numTo_nums l0 t) t
    by_cases h : t < l0.length ∧ t < 60
    · obtain ⟨h1, h2⟩ := h
      have ih' := ih (t + 1) (by omega) (by omega) (by omega)
      have e5 : wrap64 ((t : Int) + 1) = ((t + 1 : Nat) : Int) := by rw [MCode.w64 (by omega) (by omega)]; omega
      rw [numTo_succ, allOf_snoc, ← e5] at ih'
      have hE := ends_ev l0 a1 (numTo l0 t) (num (rd l0 (t : Nat))) (by rw [numTo_len]; omega) _ t true ih'
      obtain ⟨n0, n1⟩ := mod_rng (rd l0 (t : Nat)) 68719476736 (by omega) (by omega)
      obtain ⟨K1, hK1⟩ := put_ev (num (rd l0 (t : Nat))) n0 n1
      obtain ⟨K2, hK2⟩ := hE
      dsimp only at hK1 hK2
      have hb := allOf_bd (numTo l0 t)
      have hkk := kk_rng (num (rd l0 (t : Nat)))
      have hnl := numTo_len l0 t
      have hel := enc_len (num (rd l0 (t : Nat)))
      have c1 : (t : Int) < (l0.length : Int) := by omega
      have c2 : (0 : Int) ≤ (t : Int) := by omega
      have c3 : decide ((t : Int) < 60) = true := decide_eq_true (by omega)
      have c4 : (allOf (numTo l0 t)).length + (enc (num (rd l0 (t : Nat)))).length < 140737488355328 := by omega
      have c5 : (numTo l0 t).length < 17592186044416 := by omega
      refine ⟨K1 + K2 + 2, fun k hk' => ?_⟩
      obtain ⟨k, rfl⟩ : ∃ m, k = m + 1 + 1 := ⟨k - 2, by omega⟩
      have k1 := hK1 k (by omega)
      have k2 := hK2 k (by omega)
      unfold num at k1 k2 c4
      show shellaclaw05_CodeRuns.l0 (k + 1 + 1) l0 a1 (allOf (numTo l0 t)) (numTo l0 t) (endsOf (numTo l0 t)) t = _
      rw [shellaclaw05_CodeRuns.l0, if_pos c1, c3, shellaclaw05_CodeRuns.j1]
      simp only [if_true]
      rw [if_pos c2, if_pos c1, k1]
      simp only [Option.bind_some]
      rw [if_pos trivial, if_pos c4, if_pos c5]
      exact k2
    · obtain ⟨K, hK⟩ := hcut
      dsimp only at hK
      refine ⟨K + 1, fun k hk' => ?_⟩
      obtain ⟨k, rfl⟩ : ∃ m, k = m + 1 := ⟨k - 1, by omega⟩
      have k1 := hK k (by omega)
      show shellaclaw05_CodeRuns.l0 (k + 1) l0 a1 (allOf (numTo l0 t)) (numTo l0 t) (endsOf (numTo l0 t)) t = _
      rw [shellaclaw05_CodeRuns.l0]
      by_cases h1 : t < l0.length
      · have c3 : decide ((t : Int) < 60) = false := decide_eq_false (by omega)
        rw [if_pos (by omega), c3]
        exact k1
      · rw [if_neg (by omega)]
        exact k1

theorem CodeRuns : shellaclaw05_CodeRuns.Pure := by
  intro l0 a1 _ _ _ _
  have h := gather_ev l0 a1 61 0 (by omega) (by omega) (by omega)
  obtain ⟨K, hK⟩ := h
  refine ⟨K, ?_⟩
  have k1 := hK K (Nat.le_refl _)
  dsimp only at k1
  unfold shellaclaw05_CodeRuns.f law05_known.f
  simp only [Option.bind_some, if_true]
  exact k1

end Go.Proofs.Ytbigfkfnlbfkhaa.Pure
