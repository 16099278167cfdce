/- Plain law for layer 3, second part: numbers cut in two, numbers read again. -/
import Derived.Test.YtbigfkfnlbfkhaaMBits
namespace Go.Proofs.Ytbigfkfnlbfkhaa.MBits
open Go.RowKit Go.Proofs.YtbigfkfnlbfkhaaW.PrintWords

theorem pow_pos2 (k : Nat) : (0 : Int) < 2 ^ k := Int.pow_pos (by omega)
theorem mod_bit (n : Int) (m k : Nat) (h : k < m) : (n % 2 ^ m) / 2 ^ k % 2 = n / 2 ^ k % 2 := by
  have hp := pow_pos2 k
  have e : (2 : Int) ^ m = 2 ^ k * (2 * 2 ^ (m - k - 1)) := by
    rw [show (2 : Int) * 2 ^ (m - k - 1) = 2 ^ (m - k) by rw [show m - k = (m - k - 1) + 1 by omega, Int.pow_succ, Int.mul_comm]; simp, ← Int.pow_add, show k + (m - k) = m by omega]
  have hd : n % 2 ^ m = n - 2 ^ m * (n / 2 ^ m) := Int.emod_def n (2 ^ m)
  rw [hd]
  generalize n / 2 ^ m = z
  rw [e, show n - 2 ^ k * (2 * 2 ^ (m - k - 1)) * z = n + 2 ^ k * (-(2 * 2 ^ (m - k - 1) * z)) by grind, Int.add_mul_ediv_left _ _ (by omega)]
  generalize (2 : Int) ^ (m - k - 1) = y
  rw [show n / 2 ^ k + -(2 * y * z) = n / 2 ^ k + 2 * (-(y * z)) by grind]
  omega
theorem bitsOf_low (n : Int) (m : Nat) : ∀ k : Nat, k ≤ m → bitsOf (n % 2 ^ m) k = bitsOf n k
  | 0, _ => rfl
  | k + 1, h => by
    simp only [bitsOf]
    rw [bitsOf_low n m k (by omega), mod_bit n m k (by omega)]
theorem bitsOf_two (n : Int) (j : Nat) : ∀ i : Nat, bitsOf (n / 2 ^ j) i ++ bitsOf (n % 2 ^ j) j = bitsOf n (i + j)
  | 0 => by rw [Nat.zero_add]; exact bitsOf_low n j j (Nat.le_refl _)
  | i + 1 => by
    rw [show i + 1 + j = (i + j) + 1 by omega]
    simp only [bitsOf, List.cons_append]
    rw [bitsOf_two n j i, Int.ediv_ediv_of_nonneg (by have := pow_pos2 j; omega), ← Int.pow_add, Nat.add_comm j i]
theorem bitsOf_Bits (n : Int) (k : Nat) : Bits (bitsOf n k) := bits_of_mem (bitsOf_bits n k)

theorem val_bits (n : Int) (m s : Nat) : ∀ k : Nat, s + k ≤ m → valAt (pack (bitsOf n m)) s k = n / 2 ^ (m - s - k) % 2 ^ k
  | 0, _ => by simp [valAt]
  | k + 1, h => by
    simp only [valAt]
    rw [val_bits n m s k (by omega), pack_bit _ (bitsOf_Bits n m) (s + k) (by rw [bitsOf_len]; omega), bitsOf_at n m (s + k) (by omega)]
    rw [show m - 1 - (s + k) = m - s - (k + 1) by omega]
    have e : n / 2 ^ (m - s - k) = n / 2 ^ (m - s - (k + 1)) / 2 := by
      rw [Int.ediv_ediv_of_nonneg (by have := pow_pos2 (m - s - (k + 1)); omega), show m - s - k = (m - s - (k + 1)) + 1 by omega, Int.pow_succ]
    rw [e]
    generalize n / 2 ^ (m - s - (k + 1)) = x
    have hp := pow_pos2 k
    rw [Int.pow_succ]
    generalize (2 : Int) ^ k = p at *
    have h1 := Int.emod_add_mul_ediv (x / 2) p
    have h2 := Int.emod_nonneg (x / 2) (show p ≠ 0 by omega)
    have h3 := Int.emod_lt_of_pos (x / 2) hp
    have h4 := Int.emod_add_mul_ediv x 2
    have h5 := Int.emod_nonneg x (show (2 : Int) ≠ 0 by omega)
    have h6 := Int.emod_lt_of_pos x (show (0 : Int) < 2 by omega)
    have hx : x = (2 * (x / 2 % p) + x % 2) + (p * 2) * (x / 2 / p) := by grind
    generalize x / 2 % p = a at *
    generalize x % 2 = b at *
    generalize x / 2 / p = c at *
    rw [hx, Int.add_mul_emod_self_left, Int.emod_eq_of_lt (by omega) (by omega)]
end Go.Proofs.Ytbigfkfnlbfkhaa.MBits
