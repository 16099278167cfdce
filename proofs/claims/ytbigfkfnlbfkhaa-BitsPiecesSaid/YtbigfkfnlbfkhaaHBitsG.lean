/- Layer 3: BitsEnds walked. -/
import Derived.Test.YtbigfkfnlbfkhaaHBitsF
namespace Go.Proofs.Ytbigfkfnlbfkhaa.HBits
open Go.RowKit Go.Proofs.YtbigfkfnlbfkhaaW.PrintWords Go.Proofs.YtbigfkfnlbfkhaaW.PrintLast Go.Proofs.YtbigfkfnlbfkhaaW.PrintMore Go.Proofs.Ytbigfkfnlbfkhaa.HBase Go.Proofs.Ytbigfkfnlbfkhaa.MBits
attribute [local go_sem] u8_max u8_sgn
set_option linter.unusedSimpArgs false
set_option linter.unusedVariables false

def szB (b : Bool) (k : Nat) : Nat := if b = true then k else 0
theorem Put_any (g : Nat) (v : Value) (l : List Int) (n K : Int) (k : Nat) (w : World) (hK : K = (k : Int)) (h : Wl w g v l) (hk : k ≤ 32) (hn : l.length ≤ 1000000000000) (b : Bool) (hb : decide (0 ≤ n ∧ n < 2 ^ k) = b) :
    Calls Try.prog 34 #[.pointer (some ⟨g, 0, none⟩), .int .i64 n, .int .i64 K] w fun e w' => ∃ E, e = .returned (.int .i64 E) ∧ (E == 0) = b ∧ ∃ v' l', Wl w' g v' l' ∧ l'.length = l.length + szB b k ∧ Did w w' g v v' := by
  subst hK
  by_cases c : 0 ≤ n ∧ n < 2 ^ k
  · rw [decide_eq_true c] at hb
    subst hb
    refine (Put_ok g v l n k w h hk c.1 c.2 hn).mono ?_
    rintro e w' ⟨rfl, v', h1, h2⟩
    exact ⟨0, rfl, rfl, v', _, h1, by rw [List.length_append, bitsOf_len]; rfl, h2⟩
  · rw [decide_eq_false c] at hb
    subst hb
    refine (Put_wide g n k w hk c).mono ?_
    rintro e w' ⟨rfl, rfl⟩
    exact ⟨12, rfl, rfl, v, l, h, rfl, Did.refl _ _ _⟩
open Classical in
theorem PutSigned_any (g : Nat) (v : Value) (l : List Int) (n K : Int) (k : Nat) (w : World) (hK : K = (k : Int)) (h : Wl w g v l) (hk : k ≤ 32) (hn : l.length ≤ 1000000000000) (b : Bool) (hb : decide (Sgn n k) = b) :
    Calls Try.prog 35 #[.pointer (some ⟨g, 0, none⟩), .int .i64 n, .int .i64 K] w fun e w' => ∃ E, e = .returned (.int .i64 E) ∧ (E == 0) = b ∧ ∃ v' l', Wl w' g v' l' ∧ l'.length = l.length + szB b k ∧ Did w w' g v v' := by
  subst hK
  by_cases c : Sgn n k
  · rw [decide_eq_true c] at hb
    subst hb
    refine (PutSigned_ok g v l n k w h hk c hn).mono ?_
    rintro e w' ⟨rfl, v', h1, h2⟩
    exact ⟨0, rfl, rfl, v', _, h1, by rw [List.length_append, bitsOf_len]; rfl, h2⟩
  · rw [decide_eq_false c] at hb
    subst hb
    refine (PutSigned_wide g n k w hk c).mono ?_
    rintro e w' ⟨rfl, rfl⟩
    exact ⟨12, rfl, rfl, v, l, h, rfl, Did.refl _ _ _⟩

open Classical in
set_option maxHeartbeats 4000000 in
set_option maxRecDepth 100000 in
theorem Signed_calls (n K : Int) (k : Nat) (w : World) (hK : K = (k : Int)) (hk : k ≤ 32) (b : Bool) (hb : decide (Sgn n k) = b) : Calls Try.prog 36 #[.int .i64 n, .int .i64 K] w fun e w' => e = .returned (.bool b) ∧ w' = w := by
  by_cases c : k = 0
  · have c1 : (K == 0) = true := by simp [hK, c]
    have hs : (n == 0) = b := by rw [← hb]; simp [Sgn, c]; by_cases h : n = 0 <;> simp [h]
    have HS := Aside0.mk hs
    clear hK hk hb hs c
    go_enter Try.func36, Try.ntmps36
    go_wp2
    go_ret
    exact ⟨by rw [HS.out]; first | rfl | simp, rfl⟩
  · have c1 : (K == 0) = false := by simp; omega
    obtain ⟨z, hz⟩ : ∃ z : Int, z = K - 1 := ⟨_, rfl⟩
    have z1 : wrap64 (K - 1) = z := by unfold wrap64; omega
    have z0 : 0 ≤ z := by omega
    obtain ⟨p, hp⟩ : ∃ p : Int, p = 2 ^ (k - 1) := ⟨_, rfl⟩
    have hp32 := pow32 (k := k - 1) (by omega)
    have hp0 : (0 : Int) < 2 ^ (k - 1) := Int.pow_pos (by omega)
    have hp1 : wrap64 (2 ^ min z.toNat 64) = p := by
      rw [show z.toNat = k - 1 by omega, Nat.min_eq_left (by omega), hp]; unfold wrap64; omega
    have hp2 : wrap64 (-p) = -p := by unfold wrap64; omega
    have hs : (decide (-p ≤ n) && decide (n < p)) = b := by rw [← hb, hp]; unfold Sgn; rw [if_neg c]; simp
    clear hK hk hb c hp hp32 hp0 hz
    by_cases c2 : -p ≤ n
    · have c3 : decide (-p ≤ n) = true := decide_eq_true c2
      rw [c3, Bool.true_and] at hs
      have HS := Aside0.mk hs
      clear hs c2
      go_enter Try.func36, Try.ntmps36
      go_wp2
      go_ret
      exact ⟨by rw [← HS.out]; first | rfl | simp, rfl⟩
    · have c3 : decide (-p ≤ n) = false := decide_eq_false c2
      rw [c3, Bool.false_and] at hs
      subst hs
      clear c2
      go_enter Try.func36, Try.ntmps36
      go_wp2
      go_ret
      exact ⟨by first | rfl | simp, rfl⟩
end Go.Proofs.Ytbigfkfnlbfkhaa.HBits
