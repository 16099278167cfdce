/- The contracts of math/bits.Len8, math/bits.LeadingZeros8 and of layer 5's 'known', by hand, in the form in which the print tells its own. -/
import Derived.Test.YtbigfkfnlbfkhaaGCodeAx
import Derived.Lib.BitFns
namespace Go.Proofs.Ytbigfkfnlbfkhaa.HCode
open Go.RowKit Go.Proofs.YtbigfkfnlbfkhaaW.PrintWords Go.Proofs.YtbigfkfnlbfkhaaW.PrintLast Go.Proofs.YtbigfkfnlbfkhaaW.PrintMore Go.Proofs.Ytbigfkfnlbfkhaa.GCodeA

def bits_Len8.f (a0 : Int) : Option Int := if 0 ≤ a0 ∧ a0 ≤ 255 then some (Lib.bitLen a0.toNat) else none
set_option maxHeartbeats 4000000 in
set_option maxRecDepth 100000 in
theorem bits_Len8.calls (a0 : Int) (r : Int) (w : World) (h : bits_Len8.f a0 = some r) :
    Calls Try.prog 66 #[.int .u8 a0] w fun e w' => e = .returned (.int .i64 r) ∧ Drawn0 w w' := by
  unfold bits_Len8.f at h
  by_cases c : 0 ≤ a0 ∧ a0 ≤ 255
  · rw [if_pos c] at h
    obtain ⟨h0, h1⟩ := c
    obtain rfl := Option.some.inj h
    clear h
    have e8 : wrap64 (Lib.len8 a0) = (Lib.bitLen a0.toNat : Int) := by unfold wrap64; exact Lib.len8_int a0 h0 h1
    have E8 := Aside0.mk e8
    clear e8
    go_enter Try.func66, Try.ntmps66
    go_wp2
    go_ret
    exact ⟨congrArg Ending.returned (congrArg (Value.int .i64) E8.out), Drawn0.refl _⟩
  · rw [if_neg c] at h; cases h

def bits_LeadingZeros8.f (a0 : Int) : Option Int := if 0 ≤ a0 ∧ a0 ≤ 255 then some (8 - Lib.bitLen a0.toNat) else none
set_option maxHeartbeats 4000000 in
set_option maxRecDepth 100000 in
theorem bits_LeadingZeros8.calls (a0 : Int) (r : Int) (w : World) (h : bits_LeadingZeros8.f a0 = some r) :
    Calls Try.prog 52 #[.int .u8 a0] w fun e w' => e = .returned (.int .i64 r) ∧ Drawn0 w w' := by
  unfold bits_LeadingZeros8.f at h
  by_cases c : 0 ≤ a0 ∧ a0 ≤ 255
  · rw [if_pos c] at h
    obtain ⟨h0, h1⟩ := c
    have l8 : Lib.bitLen a0.toNat ≤ 8 := Lib.bitLen_le8' a0 h0 h1
    obtain rfl := Option.some.inj h
    clear h
    have HL : bits_Len8.f a0 = some (Lib.bitLen a0.toNat : Int) := by unfold bits_Len8.f; rw [if_pos ⟨h0, h1⟩]
    have A1 := Aside0.mk HL
    clear HL
    obtain ⟨b, hb⟩ : ∃ b : Nat, b = Lib.bitLen a0.toNat := ⟨_, rfl⟩
    rw [← hb] at l8 A1 ⊢
    have hb' := Aside0.mk hb
    clear hb
    go_enter Try.func52, Try.ntmps52
    go_wp2_with (go_at_call 66; refine (bits_Len8.calls _ _ _ A1.out).mono ?_; rintro e w' ⟨rfl, ⟨nd, rfl⟩⟩)
    go_ret
    exact ⟨by first | rfl | simp, by repeat (first | exact Drawn0.refl _ | apply Drawn0.step)⟩
  · rw [if_neg c] at h; cases h

def law05_known.f : Option Bool := some true
theorem put128 : code_Put.f 20 128 = some ([194, 128], 0) := by decide +kernel
theorem fold1 : code_Fold.f (-1) = some (1, 0) := by decide +kernel
set_option maxHeartbeats 4000000 in
set_option maxRecDepth 100000 in
theorem law05_known.calls (r : Bool) (w : World) (h : law05_known.f = some r) :
    Calls Try.prog 18 #[] w fun e w' => e = .returned (.bool r) ∧ Below w.heap.size w w' := by
  obtain rfl := Option.some.inj h
  clear h
  have A1 := Aside0.mk put128
  have A2 := Aside0.mk fold1
  have hs : ((strOfNums [194, 128]).toList == ([194, 128] : List UInt8)) = true := by decide +kernel
  have hs2 : (strOfNums [194, 128]).toList = ([194, 128] : List UInt8) := by decide +kernel
  go_enter Try.func18, Try.ntmps18
  go_wp2_with (go_at_call 19; refine (code_Put.calls _ _ _ _ _ A1.out).mono ?_; rintro e w1 ⟨v, rfl, ho, hb⟩; have HO := Aside0.mk ho; have HB := Aside0.mk hb; clear ho hb)
  go_wp2_with (go_at_call 50; refine (code_Fold.calls _ _ _ _ A2.out).mono ?_; rintro e w2 ⟨rfl, ⟨nd, rfl⟩⟩; have hcv := own_string (P := Try.prog) Try.underlying34 Try.underlying5 Try.underlying9 (Kd.own_of_R (Kd.R_drewN HO.out nd)))
  go_ret
  exact ⟨by first | rfl | (simp; done) | decide +kernel, by repeat (first | exact HB.out | apply below_alloc | apply pw_below_drewN | apply below_drew1)⟩

end Go.Proofs.Ytbigfkfnlbfkhaa.HCode
