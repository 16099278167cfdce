/- Layer 3: BitsEnds walked. -/
import Derived.Test.YtbigfkfnlbfkhaaHBitsG
namespace Go.Proofs.Ytbigfkfnlbfkhaa.HBits
open Go.RowKit Go.Proofs.YtbigfkfnlbfkhaaW.PrintWords Go.Proofs.YtbigfkfnlbfkhaaW.PrintLast Go.Proofs.YtbigfkfnlbfkhaaW.PrintMore Go.Proofs.Ytbigfkfnlbfkhaa.HBase Go.Proofs.Ytbigfkfnlbfkhaa.MBits
attribute [local go_sem] u8_max u8_sgn
set_option linter.unusedSimpArgs false
set_option linter.unusedVariables false

theorem mod_k (a n : Int) (h0 : 0 < n) (h1 : n < 9223372036854775807) : 0 ≤ wrap64 (Int.tmod (IntKind.u64.wrap a) n) ∧ wrap64 (Int.tmod (IntKind.u64.wrap a) n) < n := by
  have hu : 0 ≤ IntKind.u64.wrap a := by simp [IntKind.wrap, IntKind.bits, IntKind.signed]; omega
  rw [Int.tmod_eq_emod_of_nonneg hu]
  have e1 := Int.emod_nonneg (IntKind.u64.wrap a) (show n ≠ 0 by omega)
  have e2 := Int.emod_lt_of_pos (IntKind.u64.wrap a) h0
  unfold wrap64
  omega

theorem Get_tailK (g : Nat) (v : Value) (bs : List Int) (n k : Nat) (K : Int) (w : World) (hK : K = (k : Int)) (h : Rr w g v bs n) (hk : k ≤ 32) (hl : bs.length ≤ 10000000000) (ht : 8 * bs.length < n + k) (hn : n ≤ 8 * bs.length) :
    Calls Try.prog 40 #[.pointer (some ⟨g, 0, none⟩), .int .i64 K] w fun e w' => e = .returned (.tuple #[.int .i64 0, .int .i64 10]) ∧ Drawn0 w w' := by
  subst hK
  exact Get_tail g v bs n k w h hk hl ht hn
theorem Get_okK (g : Nat) (v : Value) (bs : List Int) (n k : Nat) (K : Int) (w : World) (hK : K = (k : Int)) (h : Rr w g v bs n) (hk : k ≤ 32) (hb : Bytes bs) (hl : bs.length ≤ 10000000000) (ht : n + k ≤ 8 * bs.length) :
    Calls Try.prog 40 #[.pointer (some ⟨g, 0, none⟩), .int .i64 K] w fun e w' => e = .returned (.tuple #[.int .i64 (valAt bs n k), .int .i64 0]) ∧ Rr w' g v bs (n + k) ∧ Keeps w w' (fun i => i = g) := by
  subst hK
  exact Get_ok g v bs n k w h hk hb hl ht
theorem len_eq {l2 l3 : List Int} {k : Nat} {K : Int} {b1 b2 : Bool} (h2 : l2.length = ([] : List Int).length + szB b1 k) (h3 : l3.length = l2.length + szB b2 k) (hK : K = (k : Int)) : ((l3.length : Nat) : Int) = (if b1 = true then K else 0) + (if b2 = true then K else 0) := by
  rw [h3, h2, hK]
  cases b1 <;> cases b2 <;> simp [szB]
theorem len_bd {m a k : Nat} {b : Bool} (h : m = a + szB b k) (hk : k ≤ 32) : m ≤ a + 32 := by
  unfold szB at h
  split at h <;> omega

set_option maxHeartbeats 8000000 in
set_option maxRecDepth 100000 in
theorem ends_core (n a1 K P : Int) (k : Nat) (A0 : Option Addr) (c0 : Nat) (l0 : List Int) (w : World) (hr0 : Kd.C (Kd.int .u8) w A0 l0.length l0) (hby : Bytes l0) (hlen : l0.length ≤ 2000)
    (hK : wrap64 (Int.tmod (IntKind.u64.wrap a1) 33) = K) (hKk : K = (k : Int)) (hk : k ≤ 32) (hP : P = 2 ^ k)
    (cn lt sg : Bool) (h1 : decide (0 ≤ n) = cn) (h2 : decide (n < P) = lt) (h3 : decide (0 ≤ n ∧ n < 2 ^ k) = (cn && lt)) (h4 : ∀ D : Decidable (Sgn n k), @decide (Sgn n k) D = sg) :
    Calls Try.prog 9 #[.int .i64 n, .int .i64 a1, .slice A0 l0.length c0] w fun e w' => e = .returned (.bool true) ∧ Below w.heap.size w w' := by
  have hg0 : decide (2000 < (l0.length : Int)) = false := decide_eq_false (by omega)
  have hp1 : wrap64 (2 ^ min K.toNat 64) = P := by
    have := pow32 hk
    have : (0 : Int) < 2 ^ k := Int.pow_pos (by omega)
    rw [hKk, Int.toNat_natCast, Nat.min_eq_left (by omega), hP]; unfold wrap64; omega
  have hK0 : 0 ≤ K := by omega
  have hs0 : wrap64 K = K := by unfold wrap64; omega
  obtain ⟨D, hD⟩ : ∃ D : Int, D = 8 * (l0.length : Int) := ⟨_, rfl⟩
  have hd1 : wrap64 (8 * (l0.length : Int)) = D := by unfold wrap64; omega
  have HD := Aside0.mk hD
  clear hD
  have hs1 : wrap64 (K + K) = K + K := by unfold wrap64; omega
  have HC := Aside0.mk hr0
  have HBy := Aside0.mk hby
  have HLEN := Aside0.mk hlen
  have HKK := Aside0.mk hKk
  have HKL := Aside0.mk hk
  have H3 := Aside0.mk h3
  have H4 := Aside0.mk h4
  clear hr0 hby hlen hKk hk hP h3 h4
  cases cn <;> cases lt <;> cases sg
  all_goals
    (go_enter Try.func9, Try.ntmps9
     go_wp2_with (first
      | (go_at_call 32; refine (known_calls _).mono ?_; rintro e w0 ⟨rfl, hb⟩; have HB0 := Aside0.mk hb; clear hb)
      | (go_at_call 33; refine (New_calls _).mono ?_; rintro e w1 ⟨g, rfl, hg, ⟨v, hw, hv⟩, hb⟩; have HW := Aside0.mk hw; have HF := Aside0.mk (fr_nil (Nat.le_trans HB0.out.size hg) hv); have HB := Aside0.mk (new_below HB0.out hb); clear hw hg hv hb)
      | (go_at_call 34; refine (Put_any g v [] n K k _ HKK.out HW.out HKL.out (by decide) _ H3.out).mono ?_; rintro e w2 ⟨E, rfl, hE, v2, l2, h1, hl2, h2⟩; have HW2 := Aside0.mk h1; have HL2 := Aside0.mk hl2; have hx := did_below HB.out HF.out h2; have HB2 := Aside0.mk hx.1; have HF2 := Aside0.mk hx.2; clear h1 h2 hx hl2)
      | (go_at_call 35; refine (PutSigned_any g v2 l2 n K k _ HKK.out HW2.out HKL.out (Nat.le_trans (len_bd HL2.out HKL.out) (by decide)) _ (H4.out _)).mono ?_; rintro e w3 ⟨F, rfl, hF, v3, l3, h1, hl3, h2⟩; have HW3 := Aside0.mk h1; have HL3 := Aside0.mk hl3; have hx := did_below HB2.out HF2.out h2; have HB3 := Aside0.mk hx.1; have HF3 := Aside0.mk hx.2; clear h1 h2 hx hl3)
      | (go_at_call 36; refine (Signed_calls n K k _ HKK.out HKL.out _ (H4.out _)).mono ?_; rintro e w3 ⟨rfl, rfl⟩)
      | (go_at_call 37; refine (len_calls g v3 _ l3.length _ HW3.out.wr).mono ?_; rintro e w3 ⟨rfl, rfl⟩; rw [len_eq HL2.out HL3.out HKK.out])
      | (go_at_call 38; refine (NewReader_calls _ _ l0 _ (Kd.C_below HC.out HB3.out) (by have := HLEN.out; omega)).mono ?_; rintro e w4 ⟨gr, vr, rfl, hg, hr, hv, hb⟩; have HR := Aside0.mk hr; have HB4 := Aside0.mk (new_below HB3.out hb); have HG := Aside0.mk (Nat.le_trans HB3.out.size hg); clear hg hr hv hb))
     go_loopg [14] (8 * l0.length + 1) (fun kq v14 wr => ∃ i at_ : Nat, v14 = .int .i64 (i : Int) ∧ Aside0 (Rr wr gr vr l0 at_) ∧ Aside0 (at_ ≤ 8 * l0.length) ∧ Aside0 (Below w.heap.size w wr) ∧ Aside0 (i + kq = 8 * l0.length + 1))
     case atStart => exact ⟨0, 0, rfl, HR, ⟨Nat.zero_le _⟩, HB4, ⟨by omega⟩⟩
     case round =>
       obtain ⟨i, at_, rfl, HRr, HAT, HBB, HI⟩ := hrel
       by_cases ci : i ≤ 8 * l0.length
       · have c1 : decide ((i : Int) ≤ D) = true := decide_eq_true (by have := HD.out; omega)
         have hi2 : wrap64 ((i : Int) + 1) = ((i + 1 : Nat) : Int) := by have := HLEN.out; unfold wrap64; omega
         have HI2 := Aside0.mk hi2
         have HCI := Aside0.mk ci
         obtain ⟨Lf, hLf⟩ : ∃ Lf : Int, Lf = 8 * (l0.length : Int) - (at_ : Int) := ⟨_, rfl⟩
         have HLf := Aside0.mk hLf
         by_cases ct : 8 * l0.length < at_ + k
         · have c2 : decide (Lf < K) = true := decide_eq_true (by have := HKK.out; omega)
           have HCT := Aside0.mk ct
           clear ci ct hLf hi2
           go_wp2_with (first
             | (go_at_call 39; refine (Left_calls gr vr l0 at_ _ (by first | exact HRr.out | exact HRr.out.drewN _ | exact (HRr.out.drewN _).drewN _) (by have := HLEN.out; omega) (by have := HAT.out; have := HLEN.out; omega)).mono ?_; rintro e wr ⟨rfl, ⟨nd, rfl⟩⟩; rw [← HLf.out])
             | (go_at_call 40; refine (Get_tailK gr vr l0 at_ k _ _ HKK.out (by first | exact HRr.out | exact HRr.out.drewN _ | exact (HRr.out.drewN _).drewN _) HKL.out (by have := HLEN.out; omega) HCT.out HAT.out).mono ?_; rintro e wr ⟨rfl, ⟨nd, rfl⟩⟩))
           go_ret
           exact ⟨by first | rfl | simp, by repeat (first | exact HBB.out | apply pw_below_drewN)⟩
         · have c2 : decide (Lf < K) = false := decide_eq_false (by have := HKK.out; omega)
           have HCT := Aside0.mk ct
           clear ci ct hLf hi2
           by_cases ck : k = 0
           · have c3 : (K == 0) = true := by rw [HKK.out, ck]; rfl
             clear ck
             go_wp2_with (first
               | (go_at_call 39; refine (Left_calls gr vr l0 at_ _ (by first | exact HRr.out | exact HRr.out.drewN _) (by have := HLEN.out; omega) (by have := HAT.out; have := HLEN.out; omega)).mono ?_; rintro e wr ⟨rfl, ⟨nd, rfl⟩⟩; rw [← HLf.out])
               | (go_at_call 40; refine (Get_okK gr vr l0 at_ k _ _ HKK.out (by first | exact HRr.out | exact HRr.out.drewN _) HKL.out HBy.out (by have := HLEN.out; omega) (by have := HCT.out; omega)).mono ?_; rintro e w5 ⟨rfl, h1, h2⟩; have HR5 := Aside0.mk h1; have HB5 := Aside0.mk (rdr_below (by first | exact HBB.out | exact pw_below_drewN HBB.out _) HG.out h2); clear h1 h2))
             go_ret
             exact ⟨by first | rfl | simp, HB5.out⟩
           · have c3 : (K == 0) = false := by rw [HKK.out]; simp; omega
             clear ck
             go_wp2_with (first
               | (go_at_call 39; refine (Left_calls gr vr l0 at_ _ (by first | exact HRr.out | exact HRr.out.drewN _) (by have := HLEN.out; omega) (by have := HAT.out; have := HLEN.out; omega)).mono ?_; rintro e wr ⟨rfl, ⟨nd, rfl⟩⟩; rw [← HLf.out])
               | (go_at_call 40; refine (Get_okK gr vr l0 at_ k _ _ HKK.out (by first | exact HRr.out | exact HRr.out.drewN _) HKL.out HBy.out (by have := HLEN.out; omega) (by have := HCT.out; omega)).mono ?_; rintro e w5 ⟨rfl, h1, h2⟩; have HR5 := Aside0.mk h1; have HB5 := Aside0.mk (rdr_below (by first | exact HBB.out | exact pw_below_drewN HBB.out _) HG.out h2); clear h1 h2))
             rw [HI2.out]
             go_roundg (gk - 1)
             case measure => have := HI.out; have := HCI.out; omega
             case rel => exact ⟨i + 1, at_ + k, rfl, HR5, ⟨by have := HCT.out; omega⟩, HB5, ⟨by have := HI.out; have := HCI.out; omega⟩⟩
       · have c1 : decide ((i : Int) ≤ D) = false := decide_eq_false (by have := HD.out; omega)
         clear ci
         go_wp2
         go_ret
         exact ⟨by first | rfl | simp, HBB.out⟩)
end Go.Proofs.Ytbigfkfnlbfkhaa.HBits
