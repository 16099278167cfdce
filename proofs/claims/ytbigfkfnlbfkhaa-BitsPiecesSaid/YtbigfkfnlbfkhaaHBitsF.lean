/- Layer 3: 'known', and what the laws lean on. -/
import Derived.Test.YtbigfkfnlbfkhaaHBitsE
namespace Go.Proofs.Ytbigfkfnlbfkhaa.HBits
open Go.RowKit Go.Proofs.YtbigfkfnlbfkhaaW.PrintWords Go.Proofs.YtbigfkfnlbfkhaaW.PrintLast Go.Proofs.YtbigfkfnlbfkhaaW.PrintMore Go.Proofs.Ytbigfkfnlbfkhaa.HBase Go.Proofs.Ytbigfkfnlbfkhaa.MBits
attribute [local go_sem] u8_max u8_sgn
set_option linter.unusedSimpArgs false
set_option linter.unusedVariables false

theorem Wl.keeps {w w' : World} {g : Nat} {v : Value} {l : List Int} {S : Nat → Prop} (h : Wl w g v l) (hk : Keeps w w' S) (hg : ¬ S g) (hv : ∀ k, v.ownBlock = some k → ¬ S k) : Wl w' g v l :=
  ⟨⟨blk_kept h.wr.blk hk.kept hg, Kd.R_mono (Kd.R_kept (Kd.R_tight rfl h.wr.row) hk.kept (fun k hk' => hv k hk'.symm)) (fun _ _ => trivial)⟩, h.bits⟩
theorem Wl.below {w w' : World} {g : Nat} {v : Value} {l : List Int} (h : Wl w g v l) (hb : Below w.heap.size w w') : Wl w' g v l := h.keeps (Keeps.of_below hb (fun _ => False)) (fun h => h) (fun _ _ h => h)
theorem Rr.below {w w' : World} {g : Nat} {v : Value} {bs : List Int} {n : Nat} (h : Rr w g v bs n) (hb : Below w.heap.size w w') : Rr w' g v bs n := h.kept (Keeps.of_below hb (fun _ => False)) (fun h => h) (fun _ _ h => h)

/-- Made since. -/
structure Fr (b g : Nat) (v : Value) : Prop where
  g0 : b ≤ g
  v0 : ∀ k, v.ownBlock = some k → b ≤ k
theorem fr_nil {b g : Nat} {v : Value} (h : b ≤ g) (hv : v.ownBlock = none) : Fr b g v := ⟨h, fun k hk => by rw [hv] at hk; cases hk⟩
theorem did_below {w w1 w2 : World} {g : Nat} {v v' : Value} (hB : Below w.heap.size w w1) (hF : Fr w.heap.size g v) (hd : Did w1 w2 g v v') : Below w.heap.size w w2 ∧ Fr w.heap.size g v' := by
  refine ⟨hB.trans (hd.kept.below hB.size (fun k hk => ?_)), hF.g0, fun k hk => ?_⟩
  · rcases hk with rfl | hk
    · exact hF.g0
    · exact hF.v0 k hk.symm
  · rcases hd.moved with hm | ⟨b, hb, hle⟩
    · exact hF.v0 k (by rw [← hm]; exact hk)
    · rw [hb] at hk
      injection hk with hk
      have := hB.size
      omega
theorem rdr_below {w w1 w2 : World} {g : Nat} (hB : Below w.heap.size w w1) (hg : w.heap.size ≤ g) (hk : Keeps w1 w2 (fun i => i = g)) : Below w.heap.size w w2 :=
  hB.trans (hk.below hB.size (fun k hk => by rw [hk]; exact hg))
theorem new_below {w w1 w2 : World} (hB : Below w.heap.size w w1) (h : Below w1.heap.size w1 w2) : Below w.heap.size w w2 := below_step hB h

theorem u9 : Try.prog.underlying 9 = some .string := by kernel_rfl
theorem u5 : Try.prog.underlying 5 = some (.int .u8) := by kernel_rfl
/-- Bytes, and that they are told as a string. -/
theorem Bytes_str (g : Nat) (v : Value) (l : List Int) (w : World) (h : Wl w g v l) (hn : l.length ≤ 1000000000) :
    Calls Try.prog 41 #[.pointer (some ⟨g, 0, none⟩)] w fun e w' => ∃ A n c, e = .returned (.slice A n c) ∧ Kd.R (Kd.int .u8) 5 w' w.heap.size (fun _ => True) (.slice A n c) (pack l) ∧ (convert 34 9 (.slice A n c)).run Try.prog w' = .ok (.string (strOfNums (pack l))) w' ∧ Below w.heap.size w w' := by
  refine (Bytes_calls g v l w h hn).mono ?_
  rintro e w' ⟨v0, rfl, hr, hb⟩
  obtain ⟨A, c, rfl⟩ := Kd.R_slice hr
  exact ⟨A, _, c, rfl, hr, Kd.C_string Try.underlying34 u5 u9 (Kd.R_reads' hr).2.2, hb⟩

theorem lit_C (w : World) : Kd.C (Kd.int .u8) (w.alloc (.cells #[.int .u8 185] 5)) (some ⟨w.heap.size, 0, none⟩) ([185] : List Int).length [185] := by
  refine Kd.C_of_reads (d := (0 : Int)) (h1 := fun _ => rfl) ⟨rfl, by decide, fun _ => ⟨_, rfl, fun j hj => ?_⟩⟩
  obtain rfl : j = 0 := by simpa using hj
  rw [add_plain]
  exact (blk_cell (by simpa using heap_alloc_new w (.cells #[.int .u8 185] 5)) 0).trans rfl
theorem by185 : Bytes [185] := by unfold Bytes; decide
theorem val03 : valAt [185] 0 3 = 5 := by decide +kernel
theorem val32 : sval (valAt [185] 3 2) 2 = -1 := by decide +kernel
theorem sgn12 : Sgn (-1) 2 := by unfold Sgn; decide
set_option maxHeartbeats 8000000 in
set_option maxRecDepth 100000 in
theorem known_calls (w : World) : Calls Try.prog 32 #[] w fun e w' => e = .returned (.bool true) ∧ Below w.heap.size w w' := by
  obtain ⟨L, hL⟩ : ∃ L : List Int, L = [] ++ bitsOf 5 3 ++ bitsOf (-1) 2 ++ List.replicate 2 0 ++ [1] := ⟨_, rfl⟩
  have hs : ((strOfNums (pack L)).toList == [185]) = true := by rw [hL]; decide +kernel
  have hl : ((L.length : Nat) : Int) = 8 := by rw [hL]; decide +kernel
  have HL := Aside0.mk hL
  have HLL := Aside0.mk hl
  clear hL hl
  go_enter Try.func32, Try.ntmps32
  go_wp2_with (first
    | (go_at_call 33; refine (New_calls _).mono ?_; rintro e w1 ⟨g, rfl, hg, ⟨v, hw, hv⟩, hb⟩; have HW := Aside0.mk hw; have HF := Aside0.mk (fr_nil hg hv); have HB := Aside0.mk hb; clear hw hg hv hb)
    | (go_at_call 34; refine (Put_ok g v [] 5 3 _ HW.out (by decide) (by decide) (by decide) (by decide)).mono ?_; rintro e w2 ⟨rfl, v2, h1, h2⟩; have HW2 := Aside0.mk h1; have hx := did_below HB.out HF.out h2; have HB2 := Aside0.mk hx.1; have HF2 := Aside0.mk hx.2; clear h1 h2 hx)
    | (go_at_call 35; refine (PutSigned_ok g v2 _ (-1) 2 _ HW2.out (by decide) sgn12 (by decide)).mono ?_; rintro e w3 ⟨rfl, v3, h1, h2⟩; have HW3 := Aside0.mk h1; have hx := did_below HB2.out HF2.out h2; have HB3 := Aside0.mk hx.1; have HF3 := Aside0.mk hx.2; clear h1 h2 hx)
    | (go_at_call 58; refine (Unary_calls g v3 _ 2 _ HW3.out (by decide) (by decide)).mono ?_; rintro e w4 ⟨rfl, v4, h1, h2⟩; rw [← HL.out] at h1; have HW4 := Aside0.mk h1; have hx := did_below HB3.out HF3.out h2; have HB4 := Aside0.mk hx.1; have HF4 := Aside0.mk hx.2; clear h1 h2 hx)
    | (go_at_call 37; refine (len_calls g v4 _ _ _ HW4.out.wr).mono ?_; rintro e w4 ⟨rfl, rfl⟩; rw [HLL.out])
    | (go_at_call 41; refine (Bytes_str g v4 L _ HW4.out (by have := HLL.out; omega)).mono ?_; rintro e w5 ⟨A5, n5, c5, rfl, hr, hcv, hb⟩; have HB5 := Aside0.mk (new_below HB4.out hb); clear hr hb)
    | (go_at_call 38; refine (NewReader_calls _ _ [185] _ (lit_C _) (by decide)).mono ?_; rintro e w7 ⟨gr, vr, rfl, hg, hr, hv, hb⟩; have HR := Aside0.mk hr; have HB7 := Aside0.mk (new_below (below_alloc HB5.out _) hb); have HG := Aside0.mk (Nat.le_trans (below_alloc HB5.out _).size hg); clear hg hr hv hb)
    | (go_at_call 40; refine (Get_ok gr vr [185] 0 3 _ HR.out (by decide) by185 (by decide) (by decide)).mono ?_; rintro e w8 ⟨rfl, h1, h2⟩; rw [val03]; have HR2 := Aside0.mk h1; have HB8 := Aside0.mk (rdr_below HB7.out HG.out h2); clear h1 h2)
    | (go_at_call 42; refine (GetSigned_ok gr vr [185] 3 2 _ HR2.out (by decide) by185 (by decide) (by decide)).mono ?_; rintro e w9 ⟨rfl, h1, h2⟩; rw [val32]; have HR3 := Aside0.mk h1; have HB9 := Aside0.mk (rdr_below HB8.out HG.out h2); clear h1 h2)
    | (go_at_call 59; refine (RUnary_calls gr vr [185] 5 2 _ HR3.out by185 (by decide) (by decide) (by decide) (by decide)).mono ?_; rintro e w10 ⟨rfl, h1, h2⟩; have HR4 := Aside0.mk h1; have HB10 := Aside0.mk (rdr_below HB9.out HG.out h2); clear h1 h2)
    | (go_at_call 39; refine (Left_calls gr vr [185] 8 _ HR4.out (by decide) (by decide)).mono ?_; rintro e w11 ⟨rfl, ⟨nd, rfl⟩⟩; rw [show (8 * (([185] : List Int).length : Int) - ((8 : Nat) : Int)) = 0 from rfl]))
  go_ret
  exact ⟨by first | rfl | simp, pw_below_drewN HB10.out _⟩
end Go.Proofs.Ytbigfkfnlbfkhaa.HBits
