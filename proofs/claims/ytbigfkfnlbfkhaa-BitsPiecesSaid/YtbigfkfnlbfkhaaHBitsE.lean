/- Layer 3: a Reader's Get, GetSigned, Unary. -/
import Derived.Test.YtbigfkfnlbfkhaaHBitsD
namespace Go.Proofs.Ytbigfkfnlbfkhaa.HBits
open Go.RowKit Go.Proofs.YtbigfkfnlbfkhaaW.PrintWords Go.Proofs.YtbigfkfnlbfkhaaW.PrintLast Go.Proofs.YtbigfkfnlbfkhaaW.PrintMore Go.Proofs.Ytbigfkfnlbfkhaa.HBase Go.Proofs.Ytbigfkfnlbfkhaa.MBits
attribute [local go_sem] u8_max u8_sgn
set_option linter.unusedSimpArgs false
set_option linter.unusedVariables false

def Bytes (bs : List Int) : Prop := ∀ x ∈ bs, 0 ≤ x ∧ x < 256
theorem pack_bytes {l : List Int} (h : Bits l) : Bytes (pack l) := by
  intro x hx
  obtain ⟨i, hi, rfl⟩ := List.getElem_of_mem hx
  rw [pack_at]
  exact byte_rng h i
/-- A Reader moves its number only. -/
theorem Rr.kept {w w' : World} {g : Nat} {v : Value} {bs : List Int} {n : Nat} {S : Nat → Prop} (h : Rr w g v bs n) (hk : Keeps w w' S) (hg : ¬ S g) (hv : ∀ k, v.ownBlock = some k → ¬ S k) : Rr w' g v bs n :=
  ⟨blk_kept h.blk hk.kept hg, Kd.R_mono (Kd.R_kept (Kd.R_tight rfl h.row) hk.kept (fun k hk' => hv k hk'.symm)) (fun _ _ => trivial)⟩
theorem Rr.bump {w : World} {g : Nat} {v : Value} {bs : List Int} {n : Nat} (h : Rr w g v bs n) (m : Nat) : Rr (w.setCell ⟨g, 1, none⟩ (.int .i64 (m : Int))) g v bs m := ⟨blk_put h.blk 1 _ rfl, Kd.R_set h.row h.blk (by decide) 1 _⟩
theorem Rr.drewN {w : World} {g : Nat} {v : Value} {bs : List Int} {n : Nat} (h : Rr w g v bs n) (m : Nat) : Rr (w.drewN m) g v bs n := ⟨blk_drewN h.blk m, Kd.R_drewN h.row m⟩

set_option maxHeartbeats 4000000 in
set_option maxRecDepth 100000 in
theorem Get_tail (g : Nat) (v : Value) (bs : List Int) (n k : Nat) (w : World) (h : Rr w g v bs n) (hk : k ≤ 32) (hl : bs.length ≤ 10000000000) (ht : 8 * bs.length < n + k) (hn : n ≤ 8 * bs.length) :
    Calls Try.prog 40 #[.pointer (some ⟨g, 0, none⟩), .int .i64 k] w fun e w' => e = .returned (.tuple #[.int .i64 0, .int .i64 10]) ∧ Drawn0 w w' := by
  have hp := nil63
  have HR := Aside0.mk h
  have HL := Aside0.mk hl
  have HN := Aside0.mk hn
  have hwk := wideK_no hk
  obtain ⟨K, hKK⟩ : ∃ K : Int, K = (k : Int) := ⟨_, rfl⟩
  rw [← hKK] at hwk ⊢
  have c1 : decide (8 * (bs.length : Int) - n < K) = true := decide_eq_true (by omega)
  obtain ⟨D, hD⟩ : ∃ D : Int, D = 8 * (bs.length : Int) - n := ⟨_, rfl⟩
  have HD := Aside0.mk hD
  rw [← hD] at c1
  clear hD h hl hn hk ht hKK
  go_enter Try.func40, Try.ntmps40
  go_wp2_with (first | (go_at_call 60; refine (wide_calls _ _).mono ?_; rintro e w ⟨rfl, rfl⟩; rw [hwk]) | (go_at_call 39; refine (Left_calls g v bs n _ HR.out (by have := HL.out; omega) (by have := HL.out; have := HN.out; omega)).mono ?_; rintro e w1 ⟨rfl, ⟨nd, rfl⟩⟩; rw [← HD.out]))
  go_ret2
  exact ⟨by first | rfl | simp, by repeat (first | exact Drawn0.refl _ | apply Drawn0.step)⟩

set_option maxHeartbeats 4000000 in
set_option maxRecDepth 100000 in
theorem Get_ok (g : Nat) (v : Value) (bs : List Int) (n k : Nat) (w : World) (h : Rr w g v bs n) (hk : k ≤ 32) (hb : Bytes bs) (hl : bs.length ≤ 10000000000) (ht : n + k ≤ 8 * bs.length) :
    Calls Try.prog 40 #[.pointer (some ⟨g, 0, none⟩), .int .i64 k] w fun e w' => e = .returned (.tuple #[.int .i64 (valAt bs n k), .int .i64 0]) ∧ Rr w' g v bs (n + k) ∧ Keeps w w' (fun i => i = g) := by
  have hp := nil63
  have HR := Aside0.mk h
  have HL := Aside0.mk hl
  have HT := Aside0.mk ht
  have HK := Aside0.mk hk
  have HBy := Aside0.mk hb
  have hwk := wideK_no hk
  obtain ⟨K, hKK⟩ : ∃ K : Int, K = (k : Int) := ⟨_, rfl⟩
  rw [← hKK] at hwk ⊢
  have c1 : decide (8 * (bs.length : Int) - n < K) = false := decide_eq_false (by omega)
  obtain ⟨D, hD⟩ : ∃ D : Int, D = 8 * (bs.length : Int) - n := ⟨_, rfl⟩
  have HD := Aside0.mk hD
  have HKK := Aside0.mk hKK
  rw [← hD] at c1
  clear hD h hl hb hk ht hKK
  go_enter Try.func40, Try.ntmps40
  go_wp2_with (first | (go_at_call 60; refine (wide_calls _ _).mono ?_; rintro e w ⟨rfl, rfl⟩; rw [hwk]) | (go_at_call 39; refine (Left_calls g v bs n _ HR.out (by have := HL.out; omega) (by have := HL.out; have := HT.out; omega)).mono ?_; rintro e w1 ⟨rfl, ⟨nd, rfl⟩⟩; rw [← HD.out]))
  go_loopg [6, 20] k (fun kq v6 v20 wr => ∃ i : Nat, v6 = .int .i64 (valAt bs n i) ∧ v20 = .int .i64 (i : Int) ∧ Aside0 (Rr wr g v bs (n + i)) ∧ Aside0 (Keeps w wr (fun i => i = g)) ∧ Aside0 (i + kq = k))
  case atStart => exact ⟨0, rfl, rfl, ⟨by first | exact HR.out | exact HR.out.drewN _⟩, ⟨by first | exact Keeps.refl _ _ | exact Keeps.drewN (Keeps.refl _ _) _⟩, ⟨by omega⟩⟩
  case round =>
    obtain ⟨i, rfl, rfl, HR', HKe, HI⟩ := hrel
    by_cases c : i < k
    · have c3 : decide ((i : Int) < K) = true := decide_eq_true (by have := HKK.out; omega)
      have hc1 : wr.cell? ⟨g, 1, none⟩ = some (.int .i64 (n + i : Nat)) := (blk_cell HR'.out.blk 1).trans rfl
      have hf1 : wr.frozen? ⟨g, 1, none⟩ = false := blk_frozen HR'.out.blk 1
      have HC := Aside0.mk c
      clear c
      have hval : Go.bits .or .i64 (wrap64 (valAt bs n i * 2)) (rbit bs (n + i)) = valAt bs n (i + 1) := by
        have e := val_rng bs n i
        have e2 := pow32 (k := i) (by have := HC.out; have := HK.out; omega)
        rw [rbit_eq bs HBy.out (n + i) (by have := HT.out; have := HC.out; omega), or_num e.1 (by omega) (bit_isBit bs _)]
        rfl
      have HV := Aside0.mk hval
      have hi2 : wrap64 ((i : Int) + 1) = ((i + 1 : Nat) : Int) := by have := HC.out; have := HK.out; unfold wrap64; omega
      have HI2 := Aside0.mk hi2
      clear hval hi2
      obtain ⟨X, hX⟩ : ∃ X : Int, X = ((n + i : Nat) : Int) := ⟨_, rfl⟩
      rw [← hX] at hc1
      have hx2 : wrap64 (X + 1) = ((n + (i + 1) : Nat) : Int) := by have := HC.out; have := HT.out; have := HL.out; unfold wrap64; omega
      have HX2 := Aside0.mk hx2
      have HX := Aside0.mk hX
      clear hX hx2
      go_wp2_with (go_at_call 63; rw [HX.out]; refine (rbit_calls g v bs (n + i) (n + i) wr HR'.out (by have := HT.out; have := HC.out; omega) (by have := HL.out; have := HT.out; have := HC.out; omega)).mono ?_; rintro e wr ⟨rfl, rfl⟩)
      rw [HV.out, HI2.out, HX2.out]
      go_roundg (gk - 1)
      case measure => have := HI.out; have := HC.out; omega
      case rel => exact ⟨i + 1, rfl, rfl, ⟨HR'.out.bump _⟩, ⟨Keeps.setCell HKe.out (.inl rfl) _⟩, ⟨by have := HI.out; have := HC.out; omega⟩⟩
    · have c3 : decide ((i : Int) < K) = false := decide_eq_false (by have := HKK.out; omega)
      have hi : i = k := by have := HI.out; omega
      subst hi
      clear c
      go_wp2
      go_ret2
      exact ⟨by first | rfl | simp, HR'.out, HKe.out⟩

/-- The number that the same bits with a sign are. -/
def sval (m : Int) (k : Nat) : Int := if 0 < k ∧ m / 2 ^ (k - 1) = 1 then m - 2 ^ k else m

set_option maxHeartbeats 4000000 in
set_option maxRecDepth 100000 in
theorem GetSigned_tail (g : Nat) (v : Value) (bs : List Int) (n k : Nat) (w : World) (h : Rr w g v bs n) (hk : k ≤ 32) (hl : bs.length ≤ 10000000000) (ht : 8 * bs.length < n + k) (hn : n ≤ 8 * bs.length) :
    Calls Try.prog 42 #[.pointer (some ⟨g, 0, none⟩), .int .i64 k] w fun e w' => e = .returned (.tuple #[.int .i64 0, .int .i64 10]) ∧ Drawn0 w w' := by
  have HG := Aside0.mk (Get_tail g v bs n k w h hk hl ht hn)
  clear h hk hl ht hn
  go_enter Try.func42, Try.ntmps42
  go_wp2_with (go_at_call 40; refine HG.out.mono ?_; rintro e w1 ⟨rfl, ⟨nd, rfl⟩⟩)
  go_ret2
  exact ⟨by first | rfl | simp, by repeat (first | exact Drawn0.refl _ | apply Drawn0.step)⟩

set_option maxHeartbeats 4000000 in
set_option maxRecDepth 100000 in
theorem GetSigned_ok (g : Nat) (v : Value) (bs : List Int) (n k : Nat) (w : World) (h : Rr w g v bs n) (hk : k ≤ 32) (hb : Bytes bs) (hl : bs.length ≤ 10000000000) (ht : n + k ≤ 8 * bs.length) :
    Calls Try.prog 42 #[.pointer (some ⟨g, 0, none⟩), .int .i64 k] w fun e w' => e = .returned (.tuple #[.int .i64 (sval (valAt bs n k) k), .int .i64 0]) ∧ Rr w' g v bs (n + k) ∧ Keeps w w' (fun i => i = g) := by
  have HG := Aside0.mk (Get_ok g v bs n k w h hk hb hl ht)
  have hv := val_rng bs n k
  have hp := pow32 hk
  obtain ⟨m, hm⟩ : ∃ m, m = valAt bs n k := ⟨_, rfl⟩
  rw [← hm] at HG hv ⊢
  clear h hb hl ht hm
  obtain ⟨K, hKK⟩ : ∃ K : Int, K = (k : Int) := ⟨_, rfl⟩
  rw [← hKK] at HG ⊢
  by_cases c : 0 < k
  · obtain ⟨z, q, ⟨z1, z0, q1⟩, hq⟩ := quo_of m k c hk
    have c1 : decide (0 < K) = true := decide_eq_true (by omega)
    rw [← hKK] at z1
    have hw1 : wrap64 (2 ^ min K.toNat 64) = 2 ^ k := by rw [hKK, Int.toNat_natCast, Nat.min_eq_left (by omega)]; unfold wrap64; omega
    by_cases cq : q = 1
    · have c2 : (q == 1) = true := by simp [cq]
      have hs : sval m k = m - 2 ^ k := by unfold sval; rw [if_pos ⟨c, by rw [← hq]; exact cq⟩]
      have hw2 : wrap64 (m - 2 ^ k) = m - 2 ^ k := by unfold wrap64; omega
      have HS := Aside0.mk hs
      have HW1 := Aside0.mk hw1
      have HW2 := Aside0.mk hw2
      have hK0 : 0 ≤ K := by omega
      clear c hk hKK hs hv hp hq hw1 hw2 cq
      go_enter Try.func42, Try.ntmps42
      go_wp2_with (go_at_call 40; refine HG.out.mono ?_; rintro e w1 ⟨rfl, h1, h2⟩; have H1 := Aside0.mk h1; have H2 := Aside0.mk h2; clear h1 h2)
      go_ret2
      exact ⟨by rw [HS.out, HW1.out, HW2.out]; rfl, H1.out, H2.out⟩
    · have c2 : (q == 1) = false := by simp [cq]
      have hs : sval m k = m := by unfold sval; rw [if_neg (fun h => cq (by rw [hq]; exact h.2))]
      have HS := Aside0.mk hs
      clear c hk hKK hs hv hp hq hw1 cq
      go_enter Try.func42, Try.ntmps42
      go_wp2_with (go_at_call 40; refine HG.out.mono ?_; rintro e w1 ⟨rfl, h1, h2⟩; have H1 := Aside0.mk h1; have H2 := Aside0.mk h2; clear h1 h2)
      go_ret2
      exact ⟨by rw [HS.out]; first | rfl | simp, H1.out, H2.out⟩
  · have c1 : decide (0 < K) = false := decide_eq_false (by omega)
    have hs : sval m k = m := by unfold sval; rw [if_neg (fun h => c h.1)]
    have HS := Aside0.mk hs
    clear c hk hKK hs hv hp
    go_enter Try.func42, Try.ntmps42
    go_wp2_with (go_at_call 40; refine HG.out.mono ?_; rintro e w1 ⟨rfl, h1, h2⟩; have H1 := Aside0.mk h1; have H2 := Aside0.mk h2; clear h1 h2)
    go_ret2
    exact ⟨by rw [HS.out]; first | rfl | simp, H1.out, H2.out⟩

theorem rbit_callsX (g : Nat) (v : Value) (bs : List Int) (n at_ : Nat) (X : Int) (w : World) (hX : X = (at_ : Int)) (h : Rr w g v bs n) (hat : at_ / 8 < bs.length) (hbig : at_ ≤ 1099511627776) :
    Calls Try.prog 63 #[.pointer (some ⟨g, 0, none⟩), .int .i64 X] w fun e w' => e = .returned (.int .i64 (rbit bs at_)) ∧ w' = w := by
  subst hX
  exact rbit_calls g v bs n at_ w h hat hbig

set_option maxHeartbeats 4000000 in
set_option maxRecDepth 100000 in
theorem RUnary_calls (g : Nat) (v : Value) (bs : List Int) (n m : Nat) (w : World) (h : Rr w g v bs n) (hb : Bytes bs) (hl : bs.length ≤ 10000000000) (ht : n + m < 8 * bs.length) (hz : ∀ j, j < m → bitAt bs (n + j) = 0) (h1 : bitAt bs (n + m) = 1) :
    Calls Try.prog 59 #[.pointer (some ⟨g, 0, none⟩)] w fun e w' => e = .returned (.tuple #[.int .i64 m, .int .i64 0]) ∧ Rr w' g v bs (n + m + 1) ∧ Keeps w w' (fun i => i = g) := by
  have hp := nil63
  obtain ⟨A, c, rfl, hlc, hC⟩ := Kd.R_reads h.row
  have HR := Aside0.mk h
  have HL := Aside0.mk hl
  have HT := Aside0.mk ht
  have HBy := Aside0.mk hb
  have HZ := Aside0.mk hz
  have H1 := Aside0.mk h1
  have hc0 : w.cell? ⟨g, 0, none⟩ = some (.slice A bs.length c) := (blk_cell h.blk 0).trans rfl
  have hc1 : w.cell? ⟨g, 1, none⟩ = some (.int .i64 n) := (blk_cell h.blk 1).trans rfl
  have hf1 : w.frozen? ⟨g, 1, none⟩ = false := blk_frozen h.blk 1
  have hw1 : wrap64 (8 * (bs.length : Int)) = 8 * (bs.length : Int) := by unfold wrap64; omega
  obtain ⟨D, hD⟩ : ∃ D : Int, D = 8 * (bs.length : Int) := ⟨_, rfl⟩
  rw [← hD] at hw1
  have HD := Aside0.mk hD
  have HW1 : Aside0 (wrap64 (8 * (bs.length : Int)) = D) := ⟨by rw [hD]; unfold wrap64; omega⟩
  clear h hl hb ht hz h1 hlc hC hD hw1
  go_enter Try.func59, Try.ntmps59
  go_wp2
  go_loopg [4] m (fun kq v4 wr => ∃ j : Nat, v4 = .int .i64 ((n + j : Nat) : Int) ∧ wr = w ∧ Aside0 (j + kq = m))
  case atStart => exact ⟨0, rfl, rfl, ⟨by omega⟩⟩
  case round =>
    obtain ⟨j, rfl, rfl, HJ⟩ := hrel
    obtain ⟨X, hX⟩ : ∃ X : Int, X = ((n + j : Nat) : Int) := ⟨_, rfl⟩
    rw [← hX]
    have c3 : decide (X < D) = true := decide_eq_true (by have := HD.out; have := HT.out; have := HJ.out; omega)
    have hw1 := HW1.out
    have HX := Aside0.mk hX
    clear hX
    cases gk with
    | zero =>
      have hbit : (rbit bs (n + j) == 1) = true := by
        rw [rbit_eq bs HBy.out (n + j) (by have := HT.out; have := HJ.out; omega), show n + j = n + m by have := HJ.out; omega, H1.out]; rfl
      have hw2 : wrap64 (X - n) = (m : Int) := by have := HX.out; have := HJ.out; have := HL.out; have := HT.out; unfold wrap64; omega
      have hw3 : wrap64 (X + 1) = ((n + m + 1 : Nat) : Int) := by have := HX.out; have := HJ.out; have := HL.out; have := HT.out; unfold wrap64; omega
      have HW2 := Aside0.mk hw2
      have HW3 := Aside0.mk hw3
      clear hw2 hw3
      go_wp2_with (go_at_call 63; refine (rbit_callsX g _ bs n (n + j) _ _ HX.out HR.out (by have := HT.out; have := HJ.out; omega) (by have := HL.out; have := HT.out; have := HJ.out; omega)).mono ?_; rintro e wr ⟨rfl, rfl⟩)
      go_ret2
      exact ⟨by rw [HW2.out]; rfl, by rw [HW3.out]; exact HR.out.bump _, Keeps.setCell (Keeps.refl _ (fun i => i = g)) (.inl rfl) _⟩
    | succ kq =>
      have hbit : (rbit bs (n + j) == 1) = false := by
        rw [rbit_eq bs HBy.out (n + j) (by have := HT.out; have := HJ.out; omega), HZ.out j (by have := HJ.out; omega)]; rfl
      have hw3 : wrap64 (X + 1) = ((n + (j + 1) : Nat) : Int) := by have := HX.out; have := HJ.out; have := HL.out; have := HT.out; unfold wrap64; omega
      have HW3 := Aside0.mk hw3
      clear hw3
      go_wp2_with (go_at_call 63; refine (rbit_callsX g _ bs n (n + j) _ _ HX.out HR.out (by have := HT.out; have := HJ.out; omega) (by have := HL.out; have := HT.out; have := HJ.out; omega)).mono ?_; rintro e wr ⟨rfl, rfl⟩)
      rw [HW3.out]
      go_roundg kq
      case measure => omega
      case rel => exact ⟨j + 1, rfl, rfl, ⟨by have := HJ.out; omega⟩⟩
end Go.Proofs.Ytbigfkfnlbfkhaa.HBits
