/- The Writer of layer 3: its other functions. -/
import Derived.Test.YtbigfkfnlbfkhaaHBitsA
namespace Go.Proofs.Ytbigfkfnlbfkhaa.HBits
open Go.RowKit Go.Proofs.YtbigfkfnlbfkhaaW.PrintWords Go.Proofs.YtbigfkfnlbfkhaaW.PrintLast Go.Proofs.YtbigfkfnlbfkhaaW.PrintMore Go.Proofs.Ytbigfkfnlbfkhaa.HBase Go.Proofs.Ytbigfkfnlbfkhaa.MBits
attribute [local go_sem] u8_max u8_sgn
set_option linter.unusedSimpArgs false
set_option linter.unusedVariables false

def wideK (k : Int) : Bool := decide (k < 0) || decide (32 < k)
theorem wide_calls (n : Int) (w : World) : Calls Try.prog 60 #[.int .i64 n] w fun e w' => e = .returned (.bool (wideK n)) ∧ w' = w := by
  by_cases c : n < 0
  · have hf : wideK n = true := by simp [wideK, c]
    have HF := Aside0.mk hf
    clear hf
    go_enter Try.func60, Try.ntmps60
    go_wp2
    go_ret
    exact ⟨by rw [HF.out]; first | rfl | simp, rfl⟩
  · have hf : wideK n = decide (32 < n) := by simp [wideK, c]
    have HF := Aside0.mk hf
    clear hf
    go_enter Try.func60, Try.ntmps60
    go_wp2
    go_ret
    exact ⟨by rw [HF.out]; first | rfl | simp, rfl⟩

theorem ubit {m : Int} (h0 : 0 ≤ m) (h1 : m < 18446744073709551616) (k : Nat) (hk : k ≤ 64) : wrap64 (Go.bits .and .u64 (m / 2 ^ min k 64) 1) = m / 2 ^ k % 2 := by
  have hp : (0 : Int) < 2 ^ k := Int.pow_pos (by omega)
  have hlo : 0 ≤ m / 2 ^ k := Int.ediv_nonneg h0 (by omega)
  have hhi : m / 2 ^ k ≤ m := Int.ediv_le_self _ h0
  rw [Nat.min_eq_left hk]
  have hw : ∀ z : Int, 0 ≤ z → z < 2 ^ 64 → IntKind.u64.wrap z = z := fun z a c => by simp [IntKind.wrap, IntKind.bits, IntKind.signed]; omega
  have := Go.bits_mask .u64 64 (by decide) hw 1 (by decide) (m / 2 ^ k) hlo (by omega)
  simp only [Int.pow_succ, Int.pow_zero, Int.one_mul] at this
  rw [show (2 : Int) - 1 = 1 by decide] at this
  rw [this]
  unfold wrap64
  omega

set_option maxHeartbeats 4000000 in
set_option maxRecDepth 100000 in
theorem put_calls (g : Nat) (v : Value) (l : List Int) (m : Int) (k : Nat) (w : World) (h : Wl w g v l) (hm0 : 0 ≤ m) (hm1 : m < 18446744073709551616) (hk : k ≤ 64) (hn : l.length ≤ 1000000000000) :
    Calls Try.prog 61 #[.pointer (some ⟨g, 0, none⟩), .int .u64 m, .int .i64 k] w fun e w' => e = .returned (.tuple #[]) ∧ ∃ v', Wl w' g v' (l ++ bitsOf m k) ∧ Did w w' g v v' := by
  have HW := Aside0.mk h
  have HN := Aside0.mk hn
  have HK := Aside0.mk hk
  have HM0 := Aside0.mk hm0
  have HM1 := Aside0.mk hm1
  have hw1 : wrap64 ((k : Int) - 1) = (k : Int) - 1 := by unfold wrap64; omega
  clear h hn hk hm0 hm1
  go_enter Try.func61, Try.ntmps61
  go_wp2
  rw [hw1]
  go_loopg [6] k (fun kq v6 wr => ∃ v' l', v6 = .int .i64 ((kq : Int) - 1) ∧ Aside0 (Wl wr g v' l') ∧ Aside0 (Did w wr g v v') ∧ Aside0 (l' ++ bitsOf m kq = l ++ bitsOf m k) ∧ Aside0 (kq ≤ k))
  case atStart => exact ⟨v, l, rfl, HW, ⟨Did.refl _ _ _⟩, ⟨rfl⟩, ⟨Nat.le_refl _⟩⟩
  case round =>
    obtain ⟨v', l', rfl, HW', HD, HL, HKQ⟩ := hrel
    cases gk with
    | zero =>
      go_wp2
      go_end0
      have := HL.out
      simp only [bitsOf, List.append_nil] at this
      exact ⟨by first | rfl | simp, v', by rw [← this]; exact HW'.out, HD.out⟩
    | succ kq =>
      obtain ⟨z, hz⟩ : ∃ z : Int, z = ((kq + 1 : Nat) : Int) - 1 := ⟨_, rfl⟩
      rw [← hz]
      have hz0 : 0 ≤ z := by omega
      have HZ := Aside0.mk hz
      clear hz hw1
      have hbit : wrap64 (Go.bits .and .u64 (m / 2 ^ min z.toNat 64) 1) = m / 2 ^ kq % 2 := by
        have e : z.toNat = kq := by have := HZ.out; omega
        rw [e]
        exact ubit HM0.out HM1.out kq (by have := HK.out; have := HKQ.out; omega)
      have HBIT := Aside0.mk hbit
      have hlen : l'.length ≤ 1000000000064 := by
        have := congrArg List.length HL.out
        rw [List.length_append, List.length_append, bitsOf_len, bitsOf_len] at this
        have := HN.out; have := HK.out; have := HKQ.out
        omega
      have HLEN := Aside0.mk hlen
      clear hbit hlen
      go_wp2_with (go_at_call 68; refine (wbit g v' l' _ wr HW'.out ?hx ?hlen).mono ?_; (case hx => rw [HBIT.out]; unfold IsBit; omega); (case hlen => have := HLEN.out; omega); rintro e w1 ⟨rfl, v1, h1, h2⟩)
      have H1 : Aside0 (Wl w1 g v1 (l' ++ [m / 2 ^ kq % 2])) := ⟨by rw [← HBIT.out]; exact h1⟩
      have H2 := Aside0.mk h2
      clear h1 h2
      have hw2 : wrap64 (z - 1) = (kq : Int) - 1 := by have := HZ.out; have := HK.out; have := HKQ.out; unfold wrap64; omega
      have HW2 := Aside0.mk hw2
      clear hw2
      go_wp2
      rw [HW2.out]
      go_roundg kq
      case measure => omega
      case rel => exact ⟨v1, _, rfl, H1, ⟨HD.out.trans H2.out⟩, ⟨by rw [← HL.out]; simp [bitsOf]⟩, ⟨by have := HKQ.out; omega⟩⟩
end Go.Proofs.Ytbigfkfnlbfkhaa.HBits
