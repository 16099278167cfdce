/- Plain law for layer 3: bits packed into bytes, one more bit, a bit read, numbers of bits. No program here. -/
import Derived.Test.YtbigfkfnlbfkhaaWMore
import Derived.Laws.BitsLemmas
namespace Go.Proofs.Ytbigfkfnlbfkhaa.MBits
open Go.RowKit Go.Proofs.YtbigfkfnlbfkhaaW.PrintWords

def IsBit (x : Int) : Prop := x = 0 ∨ x = 1
theorem IsBit.rng {x : Int} (h : IsBit x) : 0 ≤ x ∧ x ≤ 1 := by unfold IsBit at h; omega
def Bits (l : List Int) : Prop := ∀ i : Nat, IsBit (l.getD i 0)
theorem bits_nil : Bits [] := fun i => .inl (by simp)
theorem bits_of_mem {l : List Int} (h : ∀ x ∈ l, IsBit x) : Bits l := by
  intro i
  rcases Nat.lt_or_ge i l.length with hi | hi
  · rw [List.getD_eq_getElem?_getD, List.getElem?_eq_getElem hi]
    exact h _ (List.getElem_mem hi)
  · rw [List.getD_eq_getElem?_getD, List.getElem?_eq_none hi]
    exact .inl rfl
theorem getD_app_l {l m : List Int} {i : Nat} (h : i < l.length) : (l ++ m).getD i 0 = l.getD i 0 := by
  simp [List.getD_eq_getElem?_getD, List.getElem?_append_left h]
theorem getD_app_r {l m : List Int} {i : Nat} (h : l.length ≤ i) : (l ++ m).getD i 0 = m.getD (i - l.length) 0 := by
  simp [List.getD_eq_getElem?_getD, List.getElem?_append_right h]
theorem getD_over {l : List Int} {i : Nat} (h : l.length ≤ i) : l.getD i 0 = 0 := by
  simp [List.getD_eq_getElem?_getD, List.getElem?_eq_none h]
theorem bits_append {l m : List Int} (h : Bits l) (k : Bits m) : Bits (l ++ m) := by
  intro i
  rcases Nat.lt_or_ge i l.length with hi | hi
  · rw [getD_app_l hi]; exact h i
  · rw [getD_app_r hi]; exact k _
theorem bits_one {x : Int} (h : IsBit x) : Bits [x] := bits_of_mem (by simpa using h)

/-- The byte that the bits from 8 * i on make. -/
def byteAt (l : List Int) (i : Nat) : Int :=
  l.getD (8 * i) 0 * 128 + l.getD (8 * i + 1) 0 * 64 + l.getD (8 * i + 2) 0 * 32 + l.getD (8 * i + 3) 0 * 16 + l.getD (8 * i + 4) 0 * 8 + l.getD (8 * i + 5) 0 * 4 + l.getD (8 * i + 6) 0 * 2 + l.getD (8 * i + 7) 0
def pack (l : List Int) : List Int := (List.range ((l.length + 7) / 8)).map (byteAt l)
theorem pack_len (l : List Int) : (pack l).length = (l.length + 7) / 8 := by simp [pack]
theorem pack_at (l : List Int) (i : Nat) (h : i < (pack l).length) : (pack l)[i] = byteAt l i := by simp [pack]
theorem byte_rng {l : List Int} (h : Bits l) (i : Nat) : 0 ≤ byteAt l i ∧ byteAt l i < 256 := by
  have h0 := (h (8 * i)).rng; have h1 := (h (8 * i + 1)).rng; have h2 := (h (8 * i + 2)).rng; have h3 := (h (8 * i + 3)).rng
  have h4 := (h (8 * i + 4)).rng; have h5 := (h (8 * i + 5)).rng; have h6 := (h (8 * i + 6)).rng; have h7 := (h (8 * i + 7)).rng
  unfold byteAt
  omega

def room (bs : List Int) (n : Nat) : List Int := if n % 8 = 0 then bs ++ [0] else bs
def stepB (bs : List Int) (n : Nat) (x : Int) : List Int := (room bs n).set (n / 8) (Go.bits .or .u8 (rd (room bs n) ((n : Int) / 8)) (IntKind.u8.wrap (wrap64 (x * 2 ^ min (7 - n % 8) 64))))

theorem or_fin : ∀ a : Fin 256, ∀ r : Fin 8, ∀ x : Fin 2, (a.val : Nat) % 2 ^ (8 - r.val) = 0 → Go.bits .or .u8 ((a.val : Nat) : Int) (IntKind.u8.wrap (wrap64 (((x.val : Nat) : Int) * 2 ^ min (7 - r.val) 64))) = ((a.val + x.val * 2 ^ (7 - r.val) : Nat) : Int) := by decide +kernel
theorem or_bit (a : Nat) (ha : a < 256) (r : Nat) (hr : r < 8) {x : Int} (hx : IsBit x) (hm : a % 2 ^ (8 - r) = 0) : Go.bits .or .u8 (a : Int) (IntKind.u8.wrap (wrap64 (x * 2 ^ min (7 - r) 64))) = (a : Int) + x * 2 ^ (7 - r) := by
  rcases hx with rfl | rfl
  · have := or_fin ⟨a, ha⟩ ⟨r, hr⟩ ⟨0, by decide⟩ hm
    simpa using this
  · have := or_fin ⟨a, ha⟩ ⟨r, hr⟩ ⟨1, by decide⟩ hm
    simpa using this

theorem room_len (l : List Int) : (room (pack l) l.length).length = (l.length + 8) / 8 := by
  unfold room
  split
  · rw [List.length_append, pack_len, List.length_singleton]; omega
  · rw [pack_len]; omega
theorem room_at (l : List Int) (i : Nat) (h : i < (room (pack l) l.length).length) : (room (pack l) l.length)[i] = byteAt l i := by
  rcases Nat.lt_or_ge i (pack l).length with hi | hi
  · have e : (room (pack l) l.length)[i]? = (pack l)[i]? := by
      unfold room
      split
      · exact List.getElem?_append_left hi
      · rfl
    rw [List.getElem?_eq_getElem h, List.getElem?_eq_getElem hi, pack_at] at e
    exact Option.some.inj e
  · have h' := h
    rw [room_len] at h'
    rw [pack_len] at hi
    have hm : l.length % 8 = 0 := by omega
    have hz : byteAt l i = 0 := by
      unfold byteAt
      rw [getD_over (by omega), getD_over (by omega), getD_over (by omega), getD_over (by omega), getD_over (by omega), getD_over (by omega), getD_over (by omega), getD_over (by omega)]
      rfl
    have e : (room (pack l) l.length)[i]? = some 0 := by
      unfold room
      rw [if_pos hm, List.getElem?_append_right (by rw [pack_len]; omega), show i - (pack l).length = 0 by rw [pack_len]; omega]
      rfl
    rw [List.getElem?_eq_getElem h] at e
    rw [hz]
    exact Option.some.inj e

theorem byte_same (l : List Int) (x : Int) (i : Nat) (h : i < l.length / 8) : byteAt (l ++ [x]) i = byteAt l i := by
  unfold byteAt
  rw [getD_app_l (by omega), getD_app_l (by omega), getD_app_l (by omega), getD_app_l (by omega), getD_app_l (by omega), getD_app_l (by omega), getD_app_l (by omega), getD_app_l (by omega)]

theorem snoc_getD (l : List Int) (x : Int) (i : Nat) : (l ++ [x]).getD i 0 = if i = l.length then x else l.getD i 0 := by
  rcases Nat.lt_trichotomy i l.length with h | h | h
  · rw [getD_app_l h, if_neg (by omega)]
  · rw [getD_app_r (by omega), if_pos h, h]; simp
  · rw [getD_app_r (by omega), if_neg (by omega), getD_over (l := l) (by omega), getD_over (by simp; omega)]

theorem byte_step (l : List Int) (x : Int) (r : Nat) (hr : r < 8) (e : l.length % 8 = r) : byteAt (l ++ [x]) (l.length / 8) = byteAt l (l.length / 8) + x * 2 ^ (7 - r) := by
  obtain ⟨q, hq⟩ : ∃ q, q = l.length / 8 := ⟨_, rfl⟩
  rw [← hq]
  have hl : l.length = 8 * q + r := by omega
  unfold byteAt
  simp only [snoc_getD]
  have z : ∀ j, r ≤ j → l.getD (8 * q + j) 0 = 0 := fun j hj => getD_over (by omega)
  have z0 : r = 0 → l.getD (8 * q) 0 = 0 := fun hj => getD_over (by omega)
  rw [hl]
  clear hl hq e
  obtain rfl | rfl | rfl | rfl | rfl | rfl | rfl | rfl : r = 0 ∨ r = 1 ∨ r = 2 ∨ r = 3 ∨ r = 4 ∨ r = 5 ∨ r = 6 ∨ r = 7 := by omega
  · rw [z0 rfl, z 1 (by omega), z 2 (by omega), z 3 (by omega), z 4 (by omega), z 5 (by omega), z 6 (by omega), z 7 (by omega)]; simp
  · rw [z 1 (by omega), z 2 (by omega), z 3 (by omega), z 4 (by omega), z 5 (by omega), z 6 (by omega), z 7 (by omega)]; simp
  · rw [z 2 (by omega), z 3 (by omega), z 4 (by omega), z 5 (by omega), z 6 (by omega), z 7 (by omega)]; simp
  · rw [z 3 (by omega), z 4 (by omega), z 5 (by omega), z 6 (by omega), z 7 (by omega)]; simp
  · rw [z 4 (by omega), z 5 (by omega), z 6 (by omega), z 7 (by omega)]; simp
  · rw [z 5 (by omega), z 6 (by omega), z 7 (by omega)]; simp
  · rw [z 6 (by omega), z 7 (by omega)]; simp
  · rw [z 7 (by omega)]; simp

theorem byte_low (l : List Int) (hb : Bits l) (r : Nat) (hr : r < 8) (e : l.length % 8 = r) : (byteAt l (l.length / 8)).toNat % 2 ^ (8 - r) = 0 := by
  obtain ⟨q, hq⟩ : ∃ q, q = l.length / 8 := ⟨_, rfl⟩
  rw [← hq]
  have z : ∀ j, r ≤ j → l.getD (8 * q + j) 0 = 0 := fun j hj => getD_over (by omega)
  have z0 : r = 0 → l.getD (8 * q) 0 = 0 := fun hj => getD_over (by omega)
  clear hq e
  have h0 := (hb (8 * q)).rng; have h1 := (hb (8 * q + 1)).rng; have h2 := (hb (8 * q + 2)).rng; have h3 := (hb (8 * q + 3)).rng
  have h4 := (hb (8 * q + 4)).rng; have h5 := (hb (8 * q + 5)).rng; have h6 := (hb (8 * q + 6)).rng
  unfold byteAt
  obtain rfl | rfl | rfl | rfl | rfl | rfl | rfl | rfl : r = 0 ∨ r = 1 ∨ r = 2 ∨ r = 3 ∨ r = 4 ∨ r = 5 ∨ r = 6 ∨ r = 7 := by omega
  · rw [z0 rfl, z 1 (by omega), z 2 (by omega), z 3 (by omega), z 4 (by omega), z 5 (by omega), z 6 (by omega), z 7 (by omega)]; simp
  · rw [z 1 (by omega), z 2 (by omega), z 3 (by omega), z 4 (by omega), z 5 (by omega), z 6 (by omega), z 7 (by omega)]; omega
  · rw [z 2 (by omega), z 3 (by omega), z 4 (by omega), z 5 (by omega), z 6 (by omega), z 7 (by omega)]; omega
  · rw [z 3 (by omega), z 4 (by omega), z 5 (by omega), z 6 (by omega), z 7 (by omega)]; omega
  · rw [z 4 (by omega), z 5 (by omega), z 6 (by omega), z 7 (by omega)]; omega
  · rw [z 5 (by omega), z 6 (by omega), z 7 (by omega)]; omega
  · rw [z 6 (by omega), z 7 (by omega)]; omega
  · rw [z 7 (by omega)]; omega

theorem step_pack (l : List Int) (hb : Bits l) {x : Int} (hx : IsBit x) : stepB (pack l) l.length x = pack (l ++ [x]) := by
  have hrl := room_len l
  have hq : l.length / 8 < (room (pack l) l.length).length := by omega
  have hrd : rd (room (pack l) l.length) ((l.length : Int) / 8) = byteAt l (l.length / 8) := by
    rw [show ((l.length : Int) / 8) = ((l.length / 8 : Nat) : Int) by omega]
    simp only [rd, Int.toNat_natCast, List.getD_eq_getElem?_getD, List.getElem?_eq_getElem hq, Option.getD_some]
    exact room_at l _ hq
  have hrng := byte_rng hb (l.length / 8)
  have hor := or_bit (byteAt l (l.length / 8)).toNat (by omega) (l.length % 8) (by omega) hx (byte_low l hb _ (by omega) rfl)
  rw [show (((byteAt l (l.length / 8)).toNat : Nat) : Int) = byteAt l (l.length / 8) by omega] at hor
  unfold stepB
  rw [hrd, hor, ← byte_step l x _ (by omega) rfl]
  apply List.ext_getElem
  · rw [List.length_set, hrl, pack_len, List.length_append, List.length_singleton]
  · intro i h1 h2
    rw [pack_at, List.getElem_set]
    rw [List.length_set] at h1
    by_cases he : l.length / 8 = i
    · rw [if_pos he, he]
    · rw [if_neg he, room_at, byte_same l x i (by omega)]

/-! ### Bits of bytes -/
def bitAt (bs : List Int) (i : Nat) : Int := rd bs ((i : Int) / 8) / 2 ^ (7 - i % 8) % 2
theorem bit_isBit (bs : List Int) (i : Nat) : IsBit (bitAt bs i) := by
  unfold IsBit bitAt
  omega
theorem pack_bit (l : List Int) (hb : Bits l) (i : Nat) (h : i < l.length) : bitAt (pack l) i = l.getD i 0 := by
  unfold bitAt
  have hq : i / 8 < (pack l).length := by rw [pack_len]; omega
  have hrd : rd (pack l) ((i : Int) / 8) = byteAt l (i / 8) := by
    rw [show ((i : Int) / 8) = ((i / 8 : Nat) : Int) by omega]
    simp only [rd, Int.toNat_natCast, List.getD_eq_getElem?_getD, List.getElem?_eq_getElem hq, Option.getD_some]
    exact pack_at l _ hq
  rw [hrd]
  clear hq h
  obtain ⟨q, hq⟩ : ∃ q, q = i / 8 := ⟨_, rfl⟩
  obtain ⟨r, hr2⟩ : ∃ r, r = i % 8 := ⟨_, rfl⟩
  have hi : i = 8 * q + r := by omega
  have hr : r < 8 := by omega
  rw [← hq, ← hr2]
  clear hq hr2 hrd
  subst hi
  have h0 := (hb (8 * q)).rng; have h1 := (hb (8 * q + 1)).rng; have h2 := (hb (8 * q + 2)).rng; have h3 := (hb (8 * q + 3)).rng
  have h4 := (hb (8 * q + 4)).rng; have h5 := (hb (8 * q + 5)).rng; have h6 := (hb (8 * q + 6)).rng; have h7 := (hb (8 * q + 7)).rng
  unfold byteAt
  obtain rfl | rfl | rfl | rfl | rfl | rfl | rfl | rfl : r = 0 ∨ r = 1 ∨ r = 2 ∨ r = 3 ∨ r = 4 ∨ r = 5 ∨ r = 6 ∨ r = 7 := by omega
  all_goals simp only [Nat.sub_zero, Nat.reduceSub, Nat.add_zero, Int.reducePow]; omega

/-- A number read from a place on. -/
def valAt (bs : List Int) (at_ : Nat) : Nat → Int
  | 0 => 0
  | k + 1 => 2 * valAt bs at_ k + bitAt bs (at_ + k)
theorem val_rng (bs : List Int) (at_ : Nat) : ∀ k, 0 ≤ valAt bs at_ k ∧ valAt bs at_ k < 2 ^ k
  | 0 => by simp [valAt]
  | k + 1 => by
    have ih := val_rng bs at_ k
    have h := bit_isBit bs (at_ + k)
    unfold IsBit at h
    rw [Int.pow_succ]
    simp only [valAt]
    omega
/-- The bits of a number, the highest first. -/
def bitsOf (n : Int) : Nat → List Int
  | 0 => []
  | k + 1 => (n / 2 ^ k % 2) :: bitsOf n k
theorem bitsOf_len (n : Int) : ∀ k, (bitsOf n k).length = k
  | 0 => rfl
  | k + 1 => by simp [bitsOf, bitsOf_len n k]
theorem bitsOf_bits (n : Int) : ∀ k, ∀ x ∈ bitsOf n k, IsBit x
  | 0, _, h => by simp [bitsOf] at h
  | k + 1, x, h => by
    rcases List.mem_cons.1 h with rfl | h
    · unfold IsBit; omega
    · exact bitsOf_bits n k x h
theorem bitsOf_at (n : Int) : ∀ (k i : Nat), i < k → (bitsOf n k).getD i 0 = n / 2 ^ (k - 1 - i) % 2
  | k + 1, 0, _ => by simp [bitsOf]
  | k + 1, i + 1, h => by
    have := bitsOf_at n k i (by omega)
    simp only [bitsOf, List.getD_cons_succ]
    rw [this, show k + 1 - 1 - (i + 1) = k - 1 - i by omega]

theorem or_num {n b : Int} (h0 : 0 ≤ n) (h1 : n < 4294967296) (hb : IsBit b) : Go.bits .or .i64 (wrap64 (n * 2)) b = 2 * n + b := by
  have e : wrap64 (n * 2) = n * 2 := by unfold wrap64; omega
  rw [e]
  have hw : ∀ m : Int, 0 ≤ m → m < 2 ^ 62 → IntKind.i64.wrap m = m := fun m a c => by rw [IntKind.wrap_i64]; omega
  rw [Go.bits_join .i64 62 (by decide) hw 1 (n * 2) b (by omega) (by omega) (by omega) (by unfold IsBit at hb; omega) (by unfold IsBit at hb; omega) (by unfold IsBit at hb; omega)]
  omega
theorem and_num (a : Int) (h0 : 0 ≤ a) (h1 : a < 256) (r : Nat) : Go.bits .and .i64 (wrap64 (a / 2 ^ r)) 1 = a / 2 ^ r % 2 := by
  have hp : (0 : Int) < 2 ^ r := Int.pow_pos (by omega)
  have hlo : 0 ≤ a / 2 ^ r := Int.ediv_nonneg h0 (by omega)
  have hhi : a / 2 ^ r ≤ a := Int.ediv_le_self _ h0
  have e : wrap64 (a / 2 ^ r) = a / 2 ^ r := by unfold wrap64; omega
  rw [e]
  have hw : ∀ m : Int, 0 ≤ m → m < 2 ^ 62 → IntKind.i64.wrap m = m := fun m a c => by rw [IntKind.wrap_i64]; omega
  have := Go.bits_mask .i64 62 (by decide) hw 1 (by decide) (a / 2 ^ r) hlo (by omega)
  simpa using this
end Go.Proofs.Ytbigfkfnlbfkhaa.MBits
