/- Plain law for layer 5: the bytes of a number, as Put makes them and as Get reads them. -/
import Derived.Test.YtbigfkfnlbfkhaaGCodex1
namespace Go.Proofs.Ytbigfkfnlbfkhaa.MCode
open Go.RowKit Go.Proofs.YtbigfkfnlbfkhaaW.PrintWords Go.Proofs.YtbigfkfnlbfkhaaW.PrintMore Go.Proofs.Ytbigfkfnlbfkhaa.HCode Go.Proofs.Ytbigfkfnlbfkhaa.GCodeA Go.Proofs.Ytbigfkfnlbfkhaa.GCode

theorem w64 {x : Int} (h0 : -9223372036854775808 ≤ x) (h1 : x < 9223372036854775808) : wrap64 x = x := by unfold wrap64; omega
theorem wraps_i64 (n : Int) (h0 : 0 ≤ n) (h1 : n < 2 ^ 63) : IntKind.i64.wrap n = n := by rw [IntKind.wrap_i64]; omega
theorem and63 (x : Int) (h0 : 0 ≤ x) (h1 : x < 9223372036854775808) : bits .and .i64 x 63 = x % 64 := bits_mask .i64 63 (by decide) wraps_i64 6 (by decide) x h0 (by omega)
theorem or_low (x y : Int) (h0 : 0 ≤ x) (h1 : x < 100000000000000000) (hy0 : 0 ≤ y) (hy1 : y < 64) : bits .or .i64 (x * 64) y = x * 64 + y :=
  bits_join .i64 63 (by decide) wraps_i64 6 (x * 64) y (by omega) (by omega) (by omega) hy0 (by omega) (by omega)
theorem rd_nat (l : List Int) (i : Nat) (h : i < l.length) : rd l (i : Int) = l[i] := by
  simp [rd, List.getD_eq_getElem?_getD, List.getElem?_eq_getElem h]

/-- How many bytes. -/
def kk (n : Int) : Nat := if n < 128 then 1 else if n < 2048 then 2 else if n < 65536 then 3 else if n < 2097152 then 4 else if n < 67108864 then 5 else if n < 2147483648 then 6 else 7
def tail : Nat → Int → List Int
  | 0, _ => []
  | m + 1, n => tail m (n / 64) ++ [128 + n % 64]
def first (k : Nat) (t : Int) : Int := 256 - 2 ^ (8 - k) + t
def enc (n : Int) : List Int := if n < 128 then [n] else first (kk n) (n / 64 ^ (kk n - 1)) :: tail (kk n - 1) n

theorem tail_len : ∀ (m : Nat) (n : Int), (tail m n).length = m
  | 0, _ => rfl
  | m + 1, n => by simp [tail, tail_len m]
theorem div_pow (n : Int) (a : Nat) : n / 64 / 64 ^ a = n / 64 ^ (a + 1) := by
  rw [Int.ediv_ediv_of_nonneg (by omega), Int.pow_succ, Int.mul_comm]
theorem tail_get : ∀ (m : Nat) (n : Int) (j : Nat) (h : j < (tail m n).length), (tail m n)[j] = 128 + (n / 64 ^ (m - 1 - j)) % 64
  | 0, _, j, h => by simp [tail] at h
  | m + 1, n, j, h => by
    rw [tail_len] at h
    simp only [tail]
    by_cases hj : j < m
    · rw [List.getElem_append_left (by rw [tail_len]; exact hj), tail_get m (n / 64) j (by rw [tail_len]; exact hj), div_pow]
      rw [show m - 1 - j + 1 = m + 1 - 1 - j by omega]
    · obtain rfl : j = m := by omega
      rw [List.getElem_append_right (by rw [tail_len]; omega)]
      simp [tail_len]

theorem kk_rng (n : Int) : 1 ≤ kk n ∧ kk n ≤ 7 := by unfold kk; repeat' split
                                                     all_goals omega
theorem enc_len (n : Int) : (enc n).length = kk n := by
  unfold enc
  by_cases h : n < 128
  · rw [if_pos h]; unfold kk; rw [if_pos h]; rfl
  · rw [if_neg h]
    have := kk_rng n
    simp [tail_len]; omega

/-! Put. -/
theorem room_eq (j : Nat) (h2 : 2 ≤ j) (h7 : j ≤ 7) : code_room.f (j : Int) = some ((5 * j + 1 : Nat) : Int) := by
  have key : ∀ m : Fin 6, code_room.f (((m.val + 2 : Nat)) : Int) = some ((5 * (m.val + 2) + 1 : Nat) : Int) := by decide +kernel
  have := key ⟨j - 2, by omega⟩
  simpa [show j - 2 + 2 = j by omega] using this
theorem shr_room (n : Int) (e : Nat) (he : e ≤ 63) : shr .i64 n (e : Int) = n / 2 ^ e := by
  unfold shr
  rw [Int.toNat_natCast, Nat.min_eq_left (by show e ≤ 64; omega)]
theorem pow_rooms : (2 : Int) ^ (5 * 2 + 1) = 2048 ∧ (2 : Int) ^ (5 * 3 + 1) = 65536 ∧ (2 : Int) ^ (5 * 4 + 1) = 2097152 ∧ (2 : Int) ^ (5 * 5 + 1) = 67108864 ∧ (2 : Int) ^ (5 * 6 + 1) = 2147483648 ∧ (2 : Int) ^ (5 * 7 + 1) = 68719476736 := by decide +kernel

theorem find_step (n : Int) (j : Nat) (h2 : 2 ≤ j) (h7 : j ≤ 7) (hn : 0 ≤ n) (k : Nat) :
    code_Put.l0 (k + 1) n j = if 2 ^ (5 * j + 1) ≤ n then code_Put.l0 k n (j + 1 : Nat) else code_Put.l1 k n j (List.replicate j 0) (j - 1 : Nat) := by
  have e1 : wrap64 ((j : Int) + 1) = ((j + 1 : Nat) : Int) := by rw [w64 (by omega) (by omega)]; omega
  have e2 : wrap64 ((j : Int) - 1) = ((j - 1 : Nat) : Int) := by rw [w64 (by omega) (by omega)]; omega
  simp only [code_Put.l0]
  rw [room_eq j h2 h7]
  simp only [Option.bind_some]
  rw [if_pos (by omega), shr_room n _ (by omega), e1, e2, Int.toNat_natCast]
  have hp : (0 : Int) < 2 ^ (5 * j + 1) := Int.pow_pos (by omega)
  by_cases h : 2 ^ (5 * j + 1) ≤ n
  · have : n / 2 ^ (5 * j + 1) > 0 := by
      have := (Int.le_ediv_iff_mul_le (a := 1) (b := n) hp).2 (by omega)
      omega
    rw [if_pos this, if_pos h]
  · have : ¬ n / 2 ^ (5 * j + 1) > 0 := by
      rw [Int.ediv_eq_zero_of_lt hn (by omega)]
      omega
    rw [if_neg this, if_neg h, if_pos (by omega), if_pos (by omega)]

theorem find_ev (n : Int) (h0 : 128 ≤ n) (h1 : n < 68719476736) (r : List Int × Int) (h : Ev (fun k => code_Put.l1 k n (kk n) (List.replicate (kk n) 0) (kk n - 1 : Nat)) r) : Ev (fun k => code_Put.l0 k n 2) r := by
  have step : ∀ (j : Nat), 2 ≤ j → j ≤ 7 → 2 ^ (5 * j + 1) ≤ n → Ev (fun k => code_Put.l0 k n (j + 1 : Nat)) r → Ev (fun k => code_Put.l0 k n (j : Nat)) r := by
    intro j a b c d
    refine Ev.step (f := fun k => code_Put.l0 k n (j + 1 : Nat)) (fun k => ?_) d
    show code_Put.l0 (k + 1) n (j : Nat) = _
    rw [find_step n j a b (by omega), if_pos c]
  have stop : ∀ (j : Nat), 2 ≤ j → j ≤ 7 → n < 2 ^ (5 * j + 1) → kk n = j → Ev (fun k => code_Put.l0 k n (j : Nat)) r := by
    intro j a b c e
    refine Ev.step (f := fun k => code_Put.l1 k n (kk n) (List.replicate (kk n) 0) (kk n - 1 : Nat)) (fun k => ?_) h
    show code_Put.l0 (k + 1) n (j : Nat) = _
    rw [find_step n j a b (by omega), if_neg (by omega), e]
  obtain ⟨p2, p3, p4, p5, p6, p7⟩ := pow_rooms
  have hk : ∀ m : Nat, kk n = m → kk n = m := fun _ h => h
  show Ev (fun k => code_Put.l0 k n ((2 : Nat) : Int)) r
  by_cases c2 : n < 2048
  · exact stop 2 (by omega) (by omega) (by omega) (by unfold kk; rw [if_neg (by omega), if_pos c2])
  refine step 2 (by omega) (by omega) (by omega) ?_
  by_cases c3 : n < 65536
  · exact stop 3 (by omega) (by omega) (by omega) (by unfold kk; rw [if_neg (by omega), if_neg c2, if_pos c3])
  refine step 3 (by omega) (by omega) (by omega) ?_
  by_cases c4 : n < 2097152
  · exact stop 4 (by omega) (by omega) (by omega) (by unfold kk; rw [if_neg (by omega), if_neg c2, if_neg c3, if_pos c4])
  refine step 4 (by omega) (by omega) (by omega) ?_
  by_cases c5 : n < 67108864
  · exact stop 5 (by omega) (by omega) (by omega) (by unfold kk; rw [if_neg (by omega), if_neg c2, if_neg c3, if_neg c4, if_pos c5])
  refine step 5 (by omega) (by omega) (by omega) ?_
  by_cases c6 : n < 2147483648
  · exact stop 6 (by omega) (by omega) (by omega) (by unfold kk; rw [if_neg (by omega), if_neg c2, if_neg c3, if_neg c4, if_neg c5, if_pos c6])
  refine step 6 (by omega) (by omega) (by omega) ?_
  exact stop 7 (by omega) (by omega) (by omega) (by unfold kk; rw [if_neg (by omega), if_neg c2, if_neg c3, if_neg c4, if_neg c5, if_neg c6])

theorem head_bits (k : Nat) (h2 : 2 ≤ k) (h7 : k ≤ 7) (t : Int) (h0 : 0 ≤ t) (ht : t < 2 ^ (7 - k)) : Go.bits .or .u8 ((shr .u64 65280 (k : Int)) % 256) (t % 256) = first k t := by
  have key : ∀ m : Fin 6, ∀ u : Fin 32, (u.val : Nat) < 2 ^ (5 - m.val) → Go.bits .or .u8 ((shr .u64 65280 ((m.val + 2 : Nat) : Int)) % 256) (((u.val : Nat) : Int) % 256) = first (m.val + 2) ((u.val : Nat) : Int) := by decide +kernel
  obtain ⟨u, rfl⟩ := Int.eq_ofNat_of_zero_le h0
  have hu : u < 2 ^ (7 - k) := by exact_mod_cast ht
  have hle : 2 ^ (7 - k) ≤ 2 ^ 5 := Nat.pow_le_pow_right (by decide) (by omega)
  have := key ⟨k - 2, by omega⟩ ⟨u, by omega⟩ (by rw [show 5 - (k - 2) = 7 - k by omega]; exact hu)
  simpa [show k - 2 + 2 = k by omega] using this

theorem fill_ev (k0 : Nat) (h2 : 2 ≤ k0) (h7 : k0 ≤ 7) : ∀ (m : Nat) (n : Int) (T : List Int), 0 ≤ n → n < 9223372036854775808 → m + 1 + T.length = k0 → n / 64 ^ m < 2 ^ (7 - k0) →
    Ev (fun k => code_Put.l1 k n k0 (List.replicate (m + 1) 0 ++ T) (m : Nat)) (first k0 (n / 64 ^ m) :: (tail m n ++ T), 0)
  | 0, n, T, h0, h1, hl, hb => by
    refine ⟨1, fun k hk => ?_⟩
    obtain ⟨k, rfl⟩ : ∃ m, k = m + 1 := ⟨k - 1, by omega⟩
    have hb' : n < 2 ^ (7 - k0) := by simpa using hb
    have hh := head_bits k0 h2 h7 n h0 hb'
    show code_Put.l1 (k + 1) n k0 (List.replicate (0 + 1) 0 ++ T) ((0 : Nat) : Int) = _
    simp only [code_Put.l1]
    rw [if_neg (by omega), if_pos (by omega), if_pos (by simp), hh]
    simp [tail]
  | m + 1, n, T, h0, h1, hl, hb => by
    have hd0 : 0 ≤ n / 64 := by omega
    have hv : Go.bits .or .u8 128 ((Go.bits .and .i64 n 63) % 256) = 128 + n % 64 := by
      rw [and63 n h0 h1, show n % 64 % 256 = n % 64 by omega]
      exact u8_or128 _ (by omega) (by omega)
    have ih := fill_ev k0 h2 h7 m (n / 64) ((128 + n % 64) :: T) hd0 (by omega) (by simp; omega) (by rw [div_pow]; exact hb)
    refine Ev.step (f := fun k => code_Put.l1 k (n / 64) k0 (List.replicate (m + 1) 0 ++ (128 + n % 64) :: T) (m : Nat)) (fun k => ?_) ?_
    · have e1 : wrap64 (((m + 1 : Nat) : Int) - 1) = (m : Nat) := by rw [w64 (by omega) (by omega)]; omega
      show code_Put.l1 (k + 1) n k0 (List.replicate (m + 1 + 1) 0 ++ T) ((m + 1 : Nat) : Int) = _
      simp only [code_Put.l1]
      rw [if_pos (by omega), if_pos (by omega), if_pos (by simp; omega), hv, e1, Int.toNat_natCast]
      congr 1
      rw [List.replicate_succ' (n := m + 1), List.append_assoc, List.set_append_right _ _ (by simp)]
      simp
    · rw [div_pow] at ih
      simpa [tail] using ih

theorem put_ev (n : Int) (h0 : 0 ≤ n) (h1 : n < 68719476736) : Ev (fun k => code_Put.f k n) (enc n, 0) := by
  have hj : Ev (fun k => code_Put.j0 k n false) (enc n, 0) := by
    by_cases h : n < 128
    · refine ⟨1, fun k hk => ?_⟩
      obtain ⟨k, rfl⟩ : ∃ m, k = m + 1 := ⟨k - 1, by omega⟩
      simp only [code_Put.j0, Bool.false_eq_true, if_false]
      rw [if_pos h]
      unfold enc
      rw [if_pos h, show n % 256 = n by omega]
    · refine Ev.step (f := fun k => code_Put.l0 k n 2) (fun k => ?_) ?_
      · show code_Put.j0 (k + 1) n false = _
        simp only [code_Put.j0, Bool.false_eq_true, if_false]
        rw [if_neg h]
      · refine find_ev n (by omega) h1 _ ?_
        have hk : 2 ≤ kk n ∧ kk n ≤ 7 ∧ n / 64 ^ (kk n - 1) < 2 ^ (7 - kk n) := by
          unfold kk
          rw [if_neg h]
          repeat' split
          all_goals (refine ⟨by omega, by omega, ?_⟩; simp only [show (64 : Int) ^ (2 - 1) = 64 from rfl, show (64 : Int) ^ (3 - 1) = 4096 from rfl, show (64 : Int) ^ (4 - 1) = 262144 from rfl, show (64 : Int) ^ (5 - 1) = 16777216 from rfl, show (64 : Int) ^ (6 - 1) = 1073741824 from rfl, show (64 : Int) ^ (7 - 1) = 68719476736 from rfl, show (2 : Int) ^ (7 - 2) = 32 from rfl, show (2 : Int) ^ (7 - 3) = 16 from rfl, show (2 : Int) ^ (7 - 4) = 8 from rfl, show (2 : Int) ^ (7 - 5) = 4 from rfl, show (2 : Int) ^ (7 - 6) = 2 from rfl, show (2 : Int) ^ (7 - 7) = 1 from rfl]; omega)
        have := fill_ev (kk n) hk.1 hk.2.1 (kk n - 1) n [] h0 (by omega) (by simp; omega) hk.2.2
        rw [show kk n - 1 + 1 = kk n by omega] at this
        unfold enc
        rw [if_neg h]
        simpa using this
  refine Ev.congr (f := fun k => code_Put.j0 k n false) (fun k => ?_) hj
  show code_Put.f k n = _
  unfold code_Put.f
  have : decide (n > 68719476735) = false := by simp; omega
  rw [if_neg (by omega), this]

/-! Get. -/
/-- What the bytes say of a number: as many as there are, they are those of n; one at least. -/
structure Begins (L : List Int) (n : Int) : Prop where
  pos : 0 < L.length
  same : ∀ j : Nat, j < L.length → j < kk n → rd L j = rd (enc n) j

theorem zeros_first : ∀ b : Fin 256, bits_LeadingZeros8.f (Go.bits .xor .u8 255 ((b.val : Nat) : Int)) = some ((if b.val < 128 then 0 else if b.val < 192 then 1 else if b.val < 224 then 2 else if b.val < 240 then 3 else if b.val < 248 then 4 else if b.val < 252 then 5 else if b.val < 254 then 6 else if b.val < 255 then 7 else 8 : Nat) : Int) := by decide +kernel
theorem low_first : ∀ k : Fin 6, ∀ u : Fin 32, (u.val : Nat) < 2 ^ (5 - k.val) → Go.bits .and .i64 (first (k.val + 2) ((u.val : Nat) : Int)) (shr .i64 127 ((k.val + 2 : Nat) : Int)) = ((u.val : Nat) : Int) ∧
    bits_LeadingZeros8.f (Go.bits .xor .u8 255 (first (k.val + 2) ((u.val : Nat) : Int))) = some ((k.val + 2 : Nat) : Int) ∧ 0 ≤ first (k.val + 2) ((u.val : Nat) : Int) ∧ first (k.val + 2) ((u.val : Nat) : Int) ≤ 255 := by decide +kernel
theorem first_facts (k : Nat) (h2 : 2 ≤ k) (h7 : k ≤ 7) (t : Int) (h0 : 0 ≤ t) (ht : t < 2 ^ (7 - k)) :
    Go.bits .and .i64 (first k t) (shr .i64 127 (k : Int)) = t ∧ bits_LeadingZeros8.f (Go.bits .xor .u8 255 (first k t)) = some (k : Int) ∧ 0 ≤ first k t ∧ first k t ≤ 255 := by
  obtain ⟨u, rfl⟩ := Int.eq_ofNat_of_zero_le h0
  have hu : u < 2 ^ (7 - k) := by exact_mod_cast ht
  have hle : 2 ^ (7 - k) ≤ 2 ^ 5 := Nat.pow_le_pow_right (by decide) (by omega)
  have := low_first ⟨k - 2, by omega⟩ ⟨u, by omega⟩ (by rw [show 5 - (k - 2) = 7 - k by omega]; exact hu)
  simpa [show k - 2 + 2 = k by omega] using this

theorem pow64_pos (m : Nat) : (0 : Int) < 64 ^ m := Int.pow_pos (by omega)
theorem kk_top (n : Int) (h0 : 128 ≤ n) (h1 : n < 68719476736) : 2 ≤ kk n ∧ kk n ≤ 7 ∧ n / 64 ^ (kk n - 1) < 2 ^ (7 - kk n) ∧ (∃ e : Int, code_room.f (wrap64 ((kk n : Int) - 1)) = some e ∧ 0 ≤ e ∧ shl .i64 1 e ≤ n) := by
  have r1 : code_room.f 1 = some 7 ∧ code_room.f 2 = some 11 ∧ code_room.f 3 = some 16 ∧ code_room.f 4 = some 21 ∧ code_room.f 5 = some 26 ∧ code_room.f 6 = some 31 := by decide +kernel
  have s1 : shl .i64 1 7 = 128 ∧ shl .i64 1 11 = 2048 ∧ shl .i64 1 16 = 65536 ∧ shl .i64 1 21 = 2097152 ∧ shl .i64 1 26 = 67108864 ∧ shl .i64 1 31 = 2147483648 := by decide +kernel
  have w1 : wrap64 (((2 : Nat) : Int) - 1) = 1 ∧ wrap64 (((3 : Nat) : Int) - 1) = 2 ∧ wrap64 (((4 : Nat) : Int) - 1) = 3 ∧ wrap64 (((5 : Nat) : Int) - 1) = 4 ∧ wrap64 (((6 : Nat) : Int) - 1) = 5 ∧ wrap64 (((7 : Nat) : Int) - 1) = 6 := by decide +kernel
  obtain ⟨a1, a2, a3, a4, a5, a6⟩ := r1
  obtain ⟨b1, b2, b3, b4, b5, b6⟩ := s1
  obtain ⟨c1, c2, c3, c4, c5, c6⟩ := w1
  unfold kk
  rw [if_neg (by omega)]
  repeat' split
  all_goals (refine ⟨by omega, by omega, ?_, ?_⟩)
  all_goals first
    | (simp only [show (64 : Int) ^ (2 - 1) = 64 from rfl, show (64 : Int) ^ (3 - 1) = 4096 from rfl, show (64 : Int) ^ (4 - 1) = 262144 from rfl, show (64 : Int) ^ (5 - 1) = 16777216 from rfl, show (64 : Int) ^ (6 - 1) = 1073741824 from rfl, show (64 : Int) ^ (7 - 1) = 68719476736 from rfl, show (2 : Int) ^ (7 - 2) = 32 from rfl, show (2 : Int) ^ (7 - 3) = 16 from rfl, show (2 : Int) ^ (7 - 4) = 8 from rfl, show (2 : Int) ^ (7 - 5) = 4 from rfl, show (2 : Int) ^ (7 - 6) = 2 from rfl, show (2 : Int) ^ (7 - 7) = 1 from rfl]; omega)
    | (rw [c1, a1]; exact ⟨_, rfl, by omega, by omega⟩)
    | (rw [c2, a2]; exact ⟨_, rfl, by omega, by omega⟩)
    | (rw [c3, a3]; exact ⟨_, rfl, by omega, by omega⟩)
    | (rw [c4, a4]; exact ⟨_, rfl, by omega, by omega⟩)
    | (rw [c5, a5]; exact ⟨_, rfl, by omega, by omega⟩)
    | (rw [c6, a6]; exact ⟨_, rfl, by omega, by omega⟩)

/-- One number's state behind i bytes. -/
structure At (L : List Int) (n : Int) (i : Nat) (lo hi : Int) : Prop where
  lo0 : 0 ≤ lo
  lo1 : lo < 64 ^ i
  hi1 : hi < 64 ^ i
  reach : n / 64 ^ (kk n - i) ≤ hi
  whole : i ≤ L.length → lo = n / 64 ^ (kk n - i) ∧ hi = n / 64 ^ (kk n - i)

theorem get_loop (L : List Int) (n : Int) (h0 : 128 ≤ n) (h1 : n < 68719476736) (hL : Begins L n) : ∀ (d i : Nat) (lo hi : Int), kk n - i = d → 1 ≤ i → i ≤ kk n → At L n i lo hi →
    Ev (fun k => code_Get.l0 k L (kk n) lo hi i) (if kk n ≤ L.length then (n, (kk n : Int), 0) else (0, 0, 10)) := by
  obtain ⟨k2, k7, ktop, e, he, he0, hle⟩ := kk_top n h0 h1
  intro d
  induction d with
  | zero =>
    intro i lo hi hd hi1 hik A
    refine ⟨1, fun k hk => ?_⟩
    obtain ⟨k, rfl⟩ : ∃ m, k = m + 1 := ⟨k - 1, by omega⟩
    obtain rfl : i = kk n := by omega
    have hr := A.reach
    have hw := A.whole
    simp only [Nat.sub_self, Int.pow_zero, Int.ediv_one] at hr hw
    show code_Get.l0 (k + 1) L (kk n) lo hi (kk n) = _
    simp only [code_Get.l0]
    rw [if_neg (by omega), he]
    simp only [Option.bind_some]
    rw [if_pos he0, if_neg (by omega)]
    by_cases hl : kk n ≤ L.length
    · rw [if_neg (by omega), if_pos hl, (hw hl).1]
    · rw [if_pos (by omega), if_neg hl]
  | succ d ih =>
    intro i lo hi hd hi1 hik A
    have hp := pow64_pos i
    have hpow : (64 : Int) ^ (i + 1) = 64 * 64 ^ i := by rw [Int.pow_succ, Int.mul_comm]
    have hbig : (64 : Int) ^ i ≤ 68719476736 := by
      have : (64 : Nat) ^ i ≤ 64 ^ 6 := Nat.pow_le_pow_right (by decide) (by omega)
      have h2 : ((64 ^ i : Nat) : Int) ≤ ((64 ^ 6 : Nat) : Int) := by exact_mod_cast this
      simpa using h2
    have hdiv : n / 64 ^ (kk n - i) = n / 64 ^ (kk n - (i + 1)) / 64 := by
      rw [Int.ediv_ediv_of_nonneg (by have := pow64_pos (kk n - (i + 1)); omega), ← Int.pow_succ, show (kk n - (i + 1)).succ = kk n - i by omega]
    have hnn : 0 ≤ n / 64 ^ (kk n - (i + 1)) := Int.ediv_nonneg (by omega) (by have := pow64_pos (kk n - (i + 1)); omega)
    have hhi0 : 0 ≤ hi := by
      have := A.reach
      have : 0 ≤ n / 64 ^ (kk n - i) := Int.ediv_nonneg (by omega) (by have := pow64_pos (kk n - i); omega)
      omega
    have e5 : Aside0 (wrap64 ((i : Int) + 1) = ((i + 1 : Nat) : Int)) := ⟨by rw [w64 (by omega) (by omega)]; omega⟩
    have a0 := A.lo0
    have a1 := A.lo1
    have a2 := A.hi1
    have a3 := A.reach
    have a4 := A.whole
    rw [hdiv] at a3 a4
    clear hdiv
    obtain ⟨q, hq0⟩ : ∃ q, n / 64 ^ (kk n - (i + 1)) = q := ⟨_, rfl⟩
    rw [hq0] at a3 a4 hnn
    have HQ := Aside0.mk hq0
    clear hq0 he he0 hle ktop A
    obtain ⟨p, hp0⟩ : ∃ p, (64 : Int) ^ i = p := ⟨_, rfl⟩
    rw [hp0] at hpow hbig a1 a2 hp
    clear hp0
    have HP := Aside0.mk hpow
    clear hpow
    have c1 : (i : Int) < (kk n : Int) := by omega
    have c3 : (0 : Int) ≤ (i : Int) := by omega
    have hi2 : 1 ≤ i + 1 := by omega
    have hi3 : i + 1 ≤ kk n := by omega
    have hi4 : kk n - (i + 1) = d := by omega
    have M1 : Aside0 (wrap64 (lo * 64) = lo * 64) := ⟨w64 (by omega) (by omega)⟩
    have M2 : Aside0 (wrap64 (hi * 64) = hi * 64) := ⟨w64 (by omega) (by omega)⟩
    by_cases hl : i < L.length
    · have hb : rd L i = 128 + q % 64 := by
        rw [hL.same i hl (by omega)]
        have hlen : i < (enc n).length := by rw [enc_len]; omega
        rw [rd_nat _ _ hlen]
        unfold enc
        simp only [if_neg (show ¬ n < 128 by omega)]
        obtain ⟨j, rfl⟩ : ∃ j, i = j + 1 := ⟨i - 1, by omega⟩
        rw [List.getElem_cons_succ, tail_get]
        rw [← HQ.out, show kk n - 1 - 1 - j = kk n - (j + 1 + 1) by omega]
      have c2 : (i : Int) < (L.length : Int) := by omega
      have c4 : rd L i / 64 = 2 := by omega
      obtain ⟨w1, w2⟩ := a4 (by omega)
      have l1 : Go.bits .and .i64 (wrap64 (rd L i)) 63 = q % 64 := by
        rw [hb, w64 (by omega) (by omega), and63 _ (by omega) (by omega)]
        omega
      have o1 : Go.bits .or .i64 (lo * 64) (q % 64) = q := by rw [or_low lo (q % 64) a0 (by omega) (by omega) (by omega)]; omega
      have o2 : Go.bits .or .i64 (hi * 64) (q % 64) = q := by rw [or_low hi (q % 64) hhi0 (by omega) (by omega) (by omega)]; omega
      have A' : At L n (i + 1) q q := ⟨hnn, by rw [HP.out]; omega, by rw [HP.out]; omega, by rw [HQ.out]; exact Int.le_refl _, fun _ => by rw [HQ.out]; exact ⟨rfl, rfl⟩⟩
      refine Ev.step (f := fun k => code_Get.l0 k L (kk n) q q (i + 1 : Nat)) (fun k => ?_) (ih (i + 1) q q hi4 hi2 hi3 A')
      show code_Get.l0 (k + 1) L (kk n) lo hi i = _
      simp only [code_Get.l0]
      rw [if_pos c1, if_pos c2, if_pos c3, if_pos c4, l1, M1.out, M2.out, o1, o2, e5.out]
    · have c2 : ¬ (i : Int) < (L.length : Int) := by omega
      have o1 : Go.bits .or .i64 (lo * 64) 0 = lo * 64 := by rw [or_low lo 0 a0 (by omega) (by omega) (by omega)]; omega
      have o2 : Go.bits .or .i64 (hi * 64) 63 = hi * 64 + 63 := or_low hi 63 hhi0 (by omega) (by omega) (by omega)
      have A' : At L n (i + 1) (lo * 64) (hi * 64 + 63) := ⟨by omega, by rw [HP.out]; omega, by rw [HP.out]; omega, by rw [HQ.out]; omega, fun h => absurd h (by omega)⟩
      refine Ev.step (f := fun k => code_Get.l0 k L (kk n) (lo * 64) (hi * 64 + 63) (i + 1 : Nat)) (fun k => ?_) (ih (i + 1) _ _ hi4 hi2 hi3 A')
      show code_Get.l0 (k + 1) L (kk n) lo hi i = _
      simp only [code_Get.l0]
      rw [if_pos c1, if_neg c2, M1.out, M2.out, o1, o2, e5.out]

/-- What Get tells of bytes that begin as a number's do. -/
theorem get_ev (L : List Int) (n : Int) (h0 : 0 ≤ n) (h1 : n < 68719476736) (hL : Begins L n) : Ev (fun k => code_Get.f k L) (if kk n ≤ L.length then (n, (kk n : Int), 0) else (0, 0, 10)) := by
  have hp := hL.pos
  have hk := kk_rng n
  have h00 := hL.same 0 hp (by omega)
  simp only [Int.natCast_zero] at h00
  by_cases h : n < 128
  · have hkk : kk n = 1 := by unfold kk; rw [if_pos h]
    have hb : rd L 0 = n := by
      rw [h00]; unfold enc; rw [if_pos h]; rfl
    have hz := zeros_first ⟨n.toNat, by omega⟩
    simp only [Int.toNat_of_nonneg h0] at hz
    rw [if_pos (by omega)] at hz
    refine ⟨0, fun k _ => ?_⟩
    show code_Get.f k L = _
    unfold code_Get.f
    rw [if_neg (by omega), if_pos (by omega), hb, hz]
    simp only [Option.bind_some]
    rw [if_pos (by omega), w64 (by omega) (by omega), if_pos (by omega), hkk]
    rfl
  · obtain ⟨k2, k7, ktop, _⟩ := kk_top n (by omega) h1
    have ht0 : 0 ≤ n / 64 ^ (kk n - 1) := Int.ediv_nonneg h0 (by have := pow64_pos (kk n - 1); omega)
    obtain ⟨f1, f2, f3, f4⟩ := first_facts (kk n) k2 k7 _ ht0 ktop
    have hb : rd L 0 = first (kk n) (n / 64 ^ (kk n - 1)) := by
      rw [h00]; unfold enc; rw [if_neg h]; rfl
    have htop64 : n / 64 ^ (kk n - 1) < 64 := by
      have : (2 : Nat) ^ (7 - kk n) ≤ 2 ^ 5 := Nat.pow_le_pow_right (by decide) (by omega)
      have h2 : ((2 ^ (7 - kk n) : Nat) : Int) ≤ ((2 ^ 5 : Nat) : Int) := by exact_mod_cast this
      simp at h2
      omega
    have A : At L n 1 (n / 64 ^ (kk n - 1)) (n / 64 ^ (kk n - 1)) := ⟨ht0, by simpa using htop64, by simpa using htop64, Int.le_refl _, fun _ => ⟨rfl, rfl⟩⟩
    obtain ⟨K, hK⟩ := get_loop L n (by omega) h1 hL _ 1 _ _ rfl (by omega) (by omega) A
    refine ⟨K, fun k hk' => ?_⟩
    have k1 := hK k hk'
    dsimp only at k1
    show code_Get.f k L = _
    unfold code_Get.f
    rw [if_neg (by omega), if_pos (by omega), hb, f2]
    simp only [Option.bind_some]
    rw [if_neg (by omega), if_neg (by omega), if_neg (by omega), if_pos (by omega), w64 (by omega) (by omega), f1]
    exact k1
end Go.Proofs.Ytbigfkfnlbfkhaa.MCode
