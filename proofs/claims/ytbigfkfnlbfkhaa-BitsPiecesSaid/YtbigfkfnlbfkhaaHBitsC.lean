/- The Writer of layer 3: Put, PutSigned, Unary, NewWriter, Bytes; bytes.Clone. -/
import Derived.Test.YtbigfkfnlbfkhaaHBitsB
namespace Go.Proofs.Ytbigfkfnlbfkhaa.HBits
open Go.RowKit Go.Proofs.YtbigfkfnlbfkhaaW.PrintWords Go.Proofs.YtbigfkfnlbfkhaaW.PrintLast Go.Proofs.YtbigfkfnlbfkhaaW.PrintMore Go.Proofs.Ytbigfkfnlbfkhaa.HBase Go.Proofs.Ytbigfkfnlbfkhaa.MBits
attribute [local go_sem] u8_max u8_sgn
set_option linter.unusedSimpArgs false
set_option linter.unusedVariables false

theorem wideK_no {k : Nat} (h : k ≤ 32) : wideK (k : Int) = false := by
  unfold wideK
  rw [decide_eq_false (by omega), decide_eq_false (by omega)]
  rfl

theorem pow32 {k : Nat} (h : k ≤ 32) : (2 : Int) ^ k ≤ 4294967296 := by
  have := Nat.pow_le_pow_right (n := 2) (by decide) h
  have h2 : ((2 ^ k : Nat) : Int) ≤ ((2 ^ 32 : Nat) : Int) := by exact_mod_cast this
  simpa using h2

set_option maxHeartbeats 4000000 in
set_option maxRecDepth 100000 in
theorem Put_ok (g : Nat) (v : Value) (l : List Int) (n : Int) (k : Nat) (w : World) (h : Wl w g v l) (hk : k ≤ 32) (h0 : 0 ≤ n) (h1 : n < 2 ^ k) (hn : l.length ≤ 1000000000000) :
    Calls Try.prog 34 #[.pointer (some ⟨g, 0, none⟩), .int .i64 n, .int .i64 k] w fun e w' => e = .returned (.int .i64 0) ∧ ∃ v', Wl w' g v' (l ++ bitsOf n k) ∧ Did w w' g v v' := by
  have hp := nil58
  have HW := Aside0.mk h
  have HN := Aside0.mk hn
  have hb : n < 4294967296 := Int.lt_of_lt_of_le h1 (pow32 hk)
  have hwk := wideK_no hk
  have hs : (n / 2 ^ min k 64 != 0) = false := by
    rw [Nat.min_eq_left (by omega), Int.ediv_eq_zero_of_lt h0 h1]
    rfl
  have hu : IntKind.u64.wrap n = n := by simp [IntKind.wrap, IntKind.bits, IntKind.signed]; omega
  have c1 : decide (n < 0) = false := decide_eq_false (by omega)
  have HK := Aside0.mk hk
  have H0 := Aside0.mk h0
  have HB := Aside0.mk hb
  clear h h0 h1 hk hn hb
  go_enter Try.func34, Try.ntmps34
  go_wp2_with (first | (go_at_call 60; refine (wide_calls _ _).mono ?_; rintro e w1 ⟨rfl, rfl⟩; rw [hwk]) | (go_at_call 61; refine (put_calls g v l n k _ HW.out H0.out (by have := HB.out; omega) (by have := HK.out; omega) HN.out).mono ?_; rintro e w1 ⟨rfl, v1, h1, h2⟩; have H1 := Aside0.mk h1; have H2 := Aside0.mk h2; clear h1 h2))
  go_ret
  exact ⟨by first | rfl | simp, v1, H1.out, H2.out⟩

set_option maxHeartbeats 4000000 in
set_option maxRecDepth 100000 in
theorem Put_wide (g : Nat) (n : Int) (k : Nat) (w : World) (hk : k ≤ 32) (h : ¬ (0 ≤ n ∧ n < 2 ^ k)) :
    Calls Try.prog 34 #[.pointer (some ⟨g, 0, none⟩), .int .i64 n, .int .i64 k] w fun e w' => e = .returned (.int .i64 12) ∧ w' = w := by
  have hp := nil58
  have hwk := wideK_no hk
  by_cases c : n < 0
  · have c1 : decide (n < 0) = true := decide_eq_true c
    clear c h hk
    go_enter Try.func34, Try.ntmps34
    go_wp2_with ((go_at_call 60; refine (wide_calls _ _).mono ?_; rintro e w1 ⟨rfl, rfl⟩; rw [hwk]))
    go_ret
    exact ⟨by first | rfl | simp, rfl⟩
  · have c1 : decide (n < 0) = false := decide_eq_false c
    have hs : (n / 2 ^ min k 64 != 0) = true := by
      rw [Nat.min_eq_left (by omega)]
      have hp : (0 : Int) < 2 ^ k := Int.pow_pos (by omega)
      have : 1 ≤ n / 2 ^ k := by
        rw [Int.le_ediv_iff_mul_le hp]
        omega
      simp
      omega
    clear c h hk
    go_enter Try.func34, Try.ntmps34
    go_wp2_with ((go_at_call 60; refine (wide_calls _ _).mono ?_; rintro e w1 ⟨rfl, rfl⟩; rw [hwk]))
    go_ret
    exact ⟨by first | rfl | simp, rfl⟩

/-- Is n a number of k bits with a sign? -/
def Sgn (n : Int) (k : Nat) : Prop := if k = 0 then n = 0 else -(2 ^ (k - 1)) ≤ n ∧ n < 2 ^ (k - 1)
theorem bitsOf_mod (n : Int) : ∀ k : Nat, k ≤ 64 → bitsOf (n % 18446744073709551616) k = bitsOf n k
  | 0, _ => rfl
  | k + 1, h => by
    simp only [bitsOf]
    rw [bitsOf_mod n k (by omega)]
    congr 1
    have e : (18446744073709551616 : Int) = 2 ^ k * (2 * 2 ^ (63 - k)) := by
      rw [show (2 : Int) * 2 ^ (63 - k) = 2 ^ (64 - k) by rw [show 64 - k = (63 - k) + 1 by omega, Int.pow_succ, Int.mul_comm], ← Int.pow_add, show k + (64 - k) = 64 by omega]
      decide
    rw [Int.emod_def n 18446744073709551616]
    have hp : (0 : Int) < 2 ^ k := Int.pow_pos (by omega)
    generalize n / 18446744073709551616 = z
    rw [e, show n - 2 ^ k * (2 * 2 ^ (63 - k)) * z = n + 2 ^ k * (-(2 * 2 ^ (63 - k) * z)) by grind, Int.add_mul_ediv_left _ _ (by omega)]
    generalize (2 : Int) ^ (63 - k) = y
    rw [show n / 2 ^ k + -(2 * y * z) = n / 2 ^ k + 2 * (-(y * z)) by grind]
    omega
theorem sgn_quo {n : Int} {k : Nat} (hk : 0 < k) : Sgn n k ↔ (n / 2 ^ (k - 1) = 0 ∨ n / 2 ^ (k - 1) = -1) := by
  unfold Sgn
  rw [if_neg (by omega)]
  have hp : (0 : Int) < 2 ^ (k - 1) := Int.pow_pos (by omega)
  generalize (2 : Int) ^ (k - 1) = p at *
  have h1 := Int.emod_add_mul_ediv n p
  have h2 := Int.emod_nonneg n (show p ≠ 0 by omega)
  have h3 := Int.emod_lt_of_pos n hp
  constructor
  · rintro ⟨a, b⟩
    rcases Int.lt_or_le n 0 with c | c
    · right
      have : n / p < 0 := Int.ediv_neg_of_neg_of_pos c hp
      have : -1 ≤ n / p := by rw [Int.le_ediv_iff_mul_le hp]; omega
      omega
    · left; exact Int.ediv_eq_zero_of_lt c b
  · rintro (a | a)
    · rw [a] at h1; constructor <;> omega
    · rw [a] at h1; constructor <;> omega

/-- What PutSigned's test asks: q the number's quotient by 2^(k-1). -/
structure Quo (n : Int) (k : Nat) (z q : Int) : Prop where
  z1 : wrap64 ((k : Int) - 1) = z
  z0 : 0 ≤ z
  q1 : n / 2 ^ min z.toNat 64 = q
theorem quo_of (n : Int) (k : Nat) (hk : 0 < k) (h32 : k ≤ 32) : ∃ z q, Quo n k z q ∧ q = n / 2 ^ (k - 1) := by
  refine ⟨(k : Int) - 1, n / 2 ^ (k - 1), ⟨by unfold wrap64; omega, by omega, ?_⟩, rfl⟩
  rw [show ((k : Int) - 1).toNat = k - 1 by omega, Nat.min_eq_left (by omega)]

theorem put_callsK (g : Nat) (v : Value) (l : List Int) (m : Int) (k : Nat) (K : Int) (w : World) (hK : K = (k : Int)) (h : Wl w g v l) (hm0 : 0 ≤ m) (hm1 : m < 18446744073709551616) (hk : k ≤ 64) (hn : l.length ≤ 1000000000000) :
    Calls Try.prog 61 #[.pointer (some ⟨g, 0, none⟩), .int .u64 m, .int .i64 K] w fun e w' => e = .returned (.tuple #[]) ∧ ∃ v', Wl w' g v' (l ++ bitsOf m k) ∧ Did w w' g v v' := by
  subst hK
  exact put_calls g v l m k w h hm0 hm1 hk hn

set_option maxHeartbeats 4000000 in
set_option maxRecDepth 100000 in
theorem PutSigned_ok (g : Nat) (v : Value) (l : List Int) (n : Int) (k : Nat) (w : World) (h : Wl w g v l) (hk : k ≤ 32) (hs : Sgn n k) (hn : l.length ≤ 1000000000000) :
    Calls Try.prog 35 #[.pointer (some ⟨g, 0, none⟩), .int .i64 n, .int .i64 k] w fun e w' => e = .returned (.int .i64 0) ∧ ∃ v', Wl w' g v' (l ++ bitsOf n k) ∧ Did w w' g v v' := by
  have hp := nil58
  have HW := Aside0.mk h
  have HN := Aside0.mk hn
  have hwk := wideK_no hk
  obtain ⟨K, hKK⟩ : ∃ K : Int, K = (k : Int) := ⟨_, rfl⟩
  rw [← hKK] at hwk ⊢
  have HKK := Aside0.mk hKK
  obtain ⟨m, hm⟩ : ∃ m, m = IntKind.u64.wrap n := ⟨_, rfl⟩
  have hm2 : m = n % 18446744073709551616 := by rw [hm]; simp [IntKind.wrap, IntKind.bits, IntKind.signed]
  have hb := bitsOf_mod n k (by omega)
  rw [← hm2] at hb
  have hm0 : 0 ≤ m := by omega
  have hm1 : m < 18446744073709551616 := by omega
  have HM0 := Aside0.mk hm0
  have HM1 := Aside0.mk hm1
  have HBB := Aside0.mk hb
  have HK := Aside0.mk hk
  have hm' := hm.symm
  clear h hn hb hm0 hm1 hm2 hm
  by_cases c : k = 0
  · have hn0 : n = 0 := by simpa [Sgn, c] using hs
    have c1 : (K == 0) = true := by simp [hKK, c]
    have c2 : decide (0 < K) = false := decide_eq_false (by omega)
    have c3 : (n != 0) = false := by simp [hn0]
    clear hs hk c hn0 hKK
    go_enter Try.func35, Try.ntmps35
    go_wp2_with (first | (go_at_call 60; refine (wide_calls _ _).mono ?_; rintro e w1 ⟨rfl, rfl⟩; rw [hwk]) | (go_at_call 61; refine (put_callsK g v l m k _ _ HKK.out HW.out HM0.out HM1.out (by have := HK.out; omega) HN.out).mono ?_; rintro e w1 ⟨rfl, v1, h1, h2⟩; rw [HBB.out] at h1; have H1 := Aside0.mk h1; have H2 := Aside0.mk h2; clear h1 h2))
    go_ret
    exact ⟨by first | rfl | simp, v1, H1.out, H2.out⟩
  · obtain ⟨z, q, ⟨z1, z0, q1⟩, hq⟩ := quo_of n k (by omega) hk
    rw [sgn_quo (by omega), ← hq] at hs
    have c1 : (K == 0) = false := by simp; omega
    have c2 : decide (0 < K) = true := decide_eq_true (by omega)
    rw [← hKK] at z1
    clear hk hq c hKK
    rcases hs with hs | hs
    · have c3 : (q != 0) = false := by simp [hs]
      clear hs
      go_enter Try.func35, Try.ntmps35
      go_wp2_with (first | (go_at_call 60; refine (wide_calls _ _).mono ?_; rintro e w1 ⟨rfl, rfl⟩; rw [hwk]) | (go_at_call 61; refine (put_callsK g v l m k _ _ HKK.out HW.out HM0.out HM1.out (by have := HK.out; omega) HN.out).mono ?_; rintro e w1 ⟨rfl, v1, h1, h2⟩; rw [HBB.out] at h1; have H1 := Aside0.mk h1; have H2 := Aside0.mk h2; clear h1 h2))
      go_ret
      exact ⟨by first | rfl | simp, v1, H1.out, H2.out⟩
    · have c3 : (q != 0) = true := by simp [hs]
      have c4 : (q != -1) = false := by simp [hs]
      clear hs
      go_enter Try.func35, Try.ntmps35
      go_wp2_with (first | (go_at_call 60; refine (wide_calls _ _).mono ?_; rintro e w1 ⟨rfl, rfl⟩; rw [hwk]) | (go_at_call 61; refine (put_callsK g v l m k _ _ HKK.out HW.out HM0.out HM1.out (by have := HK.out; omega) HN.out).mono ?_; rintro e w1 ⟨rfl, v1, h1, h2⟩; rw [HBB.out] at h1; have H1 := Aside0.mk h1; have H2 := Aside0.mk h2; clear h1 h2))
      go_ret
      exact ⟨by first | rfl | simp, v1, H1.out, H2.out⟩

set_option maxHeartbeats 4000000 in
set_option maxRecDepth 100000 in
theorem PutSigned_wide (g : Nat) (n : Int) (k : Nat) (w : World) (hk : k ≤ 32) (hs : ¬ Sgn n k) :
    Calls Try.prog 35 #[.pointer (some ⟨g, 0, none⟩), .int .i64 n, .int .i64 k] w fun e w' => e = .returned (.int .i64 12) ∧ w' = w := by
  have hp := nil58
  have hwk := wideK_no hk
  obtain ⟨K, hKK⟩ : ∃ K : Int, K = (k : Int) := ⟨_, rfl⟩
  rw [← hKK] at hwk ⊢
  have HKK := Aside0.mk hKK
  by_cases c : k = 0
  · have hn0 : n ≠ 0 := by simpa [Sgn, c] using hs
    have c1 : (K == 0) = true := by simp [hKK, c]
    have c3 : (n != 0) = true := by simp [hn0]
    clear hs hk c hn0 hKK
    go_enter Try.func35, Try.ntmps35
    go_wp2_with ((go_at_call 60; refine (wide_calls _ _).mono ?_; rintro e w1 ⟨rfl, rfl⟩; rw [hwk]))
    go_ret
    exact ⟨by first | rfl | simp, rfl⟩
  · obtain ⟨z, q, ⟨z1, z0, q1⟩, hq⟩ := quo_of n k (by omega) hk
    rw [sgn_quo (by omega), ← hq] at hs
    have c1 : (K == 0) = false := by simp; omega
    have c2 : decide (0 < K) = true := decide_eq_true (by omega)
    have c3 : (q != 0) = true := by simp; omega
    have c4 : (q != -1) = true := by simp; omega
    rw [← hKK] at z1
    clear hk hq c hs hKK
    go_enter Try.func35, Try.ntmps35
    go_wp2_with ((go_at_call 60; refine (wide_calls _ _).mono ?_; rintro e w1 ⟨rfl, rfl⟩; rw [hwk]))
    go_ret
    exact ⟨by first | rfl | simp, rfl⟩

set_option maxHeartbeats 4000000 in
set_option maxRecDepth 100000 in
theorem New_calls (w : World) : Calls Try.prog 33 #[] w fun e w' => ∃ g, e = .returned (.pointer (some ⟨g, 0, none⟩)) ∧ w.heap.size ≤ g ∧ (∃ v, Wl w' g v [] ∧ v.ownBlock = none) ∧ Below w.heap.size w w' := by
  have hu84 := Try.underlying84
  go_enter Try.func33, Try.ntmps33
  go_wp2_with (((with_reducible refine gate_dst (N := 2) rfl ?_); refine box_event ?hg (N := 2) ?hd (cs := #[.slice none 0 0, .int .i64 0]) (t := 84) ?hr ?_; (case hd => rfl); (case hg => rfl); (case hr => first | (go_simp; done) | (go_simp; rfl)); intro gb hg w1 hbox hb; have HX := Aside0.mk hbox; have HB := Aside0.mk hb; have HG := Aside0.mk hg; clear hg hbox hb))
  go_ret
  exact ⟨gb, rfl, by rw [HG.out]; exact Nat.le_refl _, ⟨_, ⟨⟨HX.out, Kd.R_nil _ _ _ _ _⟩, bits_nil⟩, rfl⟩, HB.out⟩

end Go.Proofs.Ytbigfkfnlbfkhaa.HBits
