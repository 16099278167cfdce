/- Layer 3: BitsPieces walked. -/
import Derived.Test.YtbigfkfnlbfkhaaHBitsH
import Derived.Test.YtbigfkfnlbfkhaaMBits2
namespace Go.Proofs.Ytbigfkfnlbfkhaa.HBits
open Go.RowKit Go.Proofs.YtbigfkfnlbfkhaaW.PrintWords Go.Proofs.YtbigfkfnlbfkhaaW.PrintLast Go.Proofs.YtbigfkfnlbfkhaaW.PrintMore Go.Proofs.Ytbigfkfnlbfkhaa.HBase Go.Proofs.Ytbigfkfnlbfkhaa.MBits
attribute [local go_sem] u8_max u8_sgn
set_option linter.unusedSimpArgs false
set_option linter.unusedVariables false

/-- Two Writers share no block. -/
def Ap (g : Nat) (v : Value) (g' : Nat) (v' : Value) : Prop := ∀ k, Own g v k → ¬ Own g' v' k
theorem Ap.symm {g g' : Nat} {v v' : Value} (h : Ap g v g' v') : Ap g' v' g v := fun k a b => h k b a
theorem Wl.lt {w : World} {g : Nat} {v : Value} {l : List Int} (h : Wl w g v l) : ∀ k, Own g v k → k < w.heap.size := by
  rintro k (rfl | hk)
  · exact blk_lt h.wr.blk
  · exact Kd.R_lt h.wr.row k hk.symm
theorem Wl.drew {w : World} {g : Nat} {v : Value} {l : List Int} (h : Wl w g v l) : Wl w.drew g v l := ⟨⟨h.wr.blk, Kd.R_drew h.wr.row⟩, h.bits⟩
/-- One moves: the other one stays, and they still share no block. -/
theorem Wl.apart {w w' : World} {g g' : Nat} {v v' v'' : Value} {l : List Int} (h : Wl w g v l) (ha : Ap g v g' v') (hd : Did w w' g' v' v'') : Wl w' g v l ∧ Ap g v g' v'' := by
  refine ⟨h.keeps hd.kept (ha g (.inl rfl)) (fun k hk => ha k (.inr hk.symm)), fun k hk => ?_⟩
  rintro (rfl | hq)
  · exact ha k hk (.inl rfl)
  · rcases hd.moved with hm | ⟨b, hb, hle⟩
    · exact ha k hk (.inr (by rw [← hm]; exact hq))
    · rw [hb] at hq
      injection hq with hq
      have := h.lt k hk
      omega
theorem ap_new {w : World} {g g' : Nat} {v v' : Value} {l : List Int} (h : Wl w g v l) (hg : w.heap.size ≤ g') (hv : v'.ownBlock = none) : Ap g v g' v' := by
  intro k hk
  rintro (rfl | hq)
  · have := h.lt k hk
    omega
  · rw [hv] at hq; cases hq

/-- Bytes, and that they are told as a string, now and later. -/
theorem Bytes_str2 (g : Nat) (v : Value) (l : List Int) (w : World) (h : Wl w g v l) (hn : l.length ≤ 1000000000) :
    Calls Try.prog 41 #[.pointer (some ⟨g, 0, none⟩)] w fun e w' => ∃ A n c, e = .returned (.slice A n c) ∧ (convert 34 9 (.slice A n c)).run Try.prog w' = .ok (.string (strOfNums (pack l))) w' ∧ (∀ w'', Below w'.heap.size w' w'' → (convert 34 9 (.slice A n c)).run Try.prog w'' = .ok (.string (strOfNums (pack l))) w'') ∧ Below w.heap.size w w' := by
  refine (Bytes_calls g v l w h hn).mono ?_
  rintro e w' ⟨v0, rfl, hr, hb⟩
  obtain ⟨A, c, rfl⟩ := Kd.R_slice hr
  exact ⟨A, _, c, rfl, Kd.C_string Try.underlying34 u5 u9 (Kd.R_reads' hr).2.2, fun w'' hb'' => Kd.C_string Try.underlying34 u5 u9 (Kd.R_reads' (Kd.R_below hr hb'')).2.2, hb⟩
theorem Put_okK (g : Nat) (v : Value) (l : List Int) (n : Int) (k : Nat) (K : Int) (w : World) (hK : K = (k : Int)) (h : Wl w g v l) (hk : k ≤ 32) (h0 : 0 ≤ n) (h1 : n < 2 ^ k) (hn : l.length ≤ 1000000000000) :
    Calls Try.prog 34 #[.pointer (some ⟨g, 0, none⟩), .int .i64 n, .int .i64 K] w fun e w' => e = .returned (.int .i64 0) ∧ ∃ v', Wl w' g v' (l ++ bitsOf n k) ∧ Did w w' g v v' := by
  subst hK
  exact Put_ok g v l n k w h hk h0 h1 hn

set_option maxHeartbeats 8000000 in
set_option maxRecDepth 100000 in
theorem pieces_core (a0 a1 a2 N C O Z Y N1 M M1 N2 VA VB X1 X2 : Int) (c o : Nat) (L : List Int) (w : World)
    (hN : wrap64 (Int.tmod (IntKind.u64.wrap a0) 4294967296) = N) (hC : wrap64 (Int.tmod (IntKind.u64.wrap a1) 33) = C) (hO : wrap64 (Int.tmod (IntKind.u64.wrap a2) 33) = O)
    (hZ : wrap64 (32 - C) = Z) (hZ0 : 0 ≤ Z) (hY : wrap64 (32 - O) = Y) (hY0 : 0 ≤ Y)
    (hN1 : N / 2 ^ min Z.toNat 64 = N1) (hM : wrap64 (2 ^ min Z.toNat 64) = M) (hM1 : wrap64 (M - 1) = M1) (hN2 : Go.bits .and .i64 N M1 = N2)
    (hX1 : wrap64 (VA * 2 ^ min Y.toNat 64) = X1) (hX2 : wrap64 (X1 + VB) = X2) (hX3 : (X2 == N) = true)
    (cC : C = (c : Int)) (hc : c ≤ 32) (cO : O = (o : Int)) (ho : o ≤ 32) (cZ : Z = ((32 - c : Nat) : Int)) (cY : Y = ((32 - o : Nat) : Int))
    (n0 : 0 ≤ N) (n1 : N < 2 ^ 32) (m0 : 0 ≤ N1) (m1 : N1 < 2 ^ c) (k0 : 0 ≤ N2) (k1 : N2 < 2 ^ (32 - c))
    (hL : bitsOf N 32 = L) (hL2 : bitsOf N1 c ++ bitsOf N2 (32 - c) = L) (hA : valAt (pack L) 0 o = VA) (hB : valAt (pack L) o (32 - o) = VB) :
    Calls Try.prog 10 #[.int .i64 a0, .int .i64 a1, .int .i64 a2] w fun e w' => e = .returned (.bool true) ∧ Below w.heap.size w w' := by
  have hZi : IntKind.i64.wrap (32 - C) = Z := (IntWalk.i64_left _).trans hZ
  have hMi : IntKind.i64.wrap (2 ^ min Z.toNat 64) = M := (IntWalk.i64_left _).trans hM
  have hM1i : IntKind.i64.wrap (M - 1) = M1 := (IntWalk.i64_left _).trans hM1
  have CC := Aside0.mk cC
  have CO := Aside0.mk cO
  have CZ := Aside0.mk cZ
  have CY := Aside0.mk cY
  have HC1 := Aside0.mk hc
  have HO1 := Aside0.mk ho
  have N0 := Aside0.mk n0
  have N1' := Aside0.mk n1
  have M0 := Aside0.mk m0
  have M1' := Aside0.mk m1
  have K0 := Aside0.mk k0
  have K1 := Aside0.mk k1
  have HL := Aside0.mk hL
  have HL2 := Aside0.mk hL2
  have HA := Aside0.mk hA
  have HB' := Aside0.mk hB
  have hlen : L.length = 32 := by rw [← hL, bitsOf_len]
  have HLEN := Aside0.mk hlen
  have hby : Bytes (pack L) := pack_bytes (by rw [← hL]; exact bitsOf_Bits N 32)
  have HBY := Aside0.mk hby
  have hpl : (pack L).length = 4 := by rw [pack_len, hlen]
  have HPL := Aside0.mk hpl
  clear cC cO cZ cY hc ho n0 n1 m0 m1 k0 k1 hL hL2 hA hB hlen hby hpl
  go_enter Try.func10, Try.ntmps10
  go_wp2_with (first
    | (go_at_call 32; refine (known_calls _).mono ?_; rintro e w0 ⟨rfl, hb⟩; have HB0 := Aside0.mk hb; clear hb)
    | (go_at_call 33; refine (New_calls w0).mono ?_; rintro e w1 ⟨g1, rfl, hg, ⟨v1, hw, hv⟩, hb⟩; have HW1 := Aside0.mk hw; have HF1 := Aside0.mk (fr_nil (Nat.le_trans HB0.out.size hg) hv); have HB1 := Aside0.mk (new_below HB0.out hb); clear hw hg hv hb)
    | (go_at_call 33; refine (New_calls w1).mono ?_; rintro e w2 ⟨g2, rfl, hg, ⟨v2, hw, hv⟩, hb⟩; have HV2 := Aside0.mk hw; have HW2 := Aside0.mk (HW1.out.below hb); have HF2 := Aside0.mk (fr_nil (Nat.le_trans HB1.out.size hg) hv); have HB2 := Aside0.mk (new_below HB1.out hb); have HAP := Aside0.mk (ap_new HW1.out hg hv); clear hw hg hv hb))
  refine start_ (n := 36) (S := fun _ => True) (ds := []) #[false, false, false, false, false, false, false, false, false, false, false, false, false, false, false, false, false, false, false, false, false, false, false, false, false, false, false, false, false, false, false, false, false, false, false, false] (by kernel_rfl) rfl rfl trivial (fun hHeld => ?_)
  refine pure_ (i := 0) (N := some 30) (v := ?_) (a' := ?_) #[true, false, false, false, false, false, false, false, false, false, false, false, false, false, false, false, false, false, false, false, false, false, false, false, false, false, false, false, false, false, false, false, false, false, false, false] rfl rfl (by kernel_rfl) (fun _ _ _ h => h) (Or.inl ⟨by rfl, ?_⟩) ?_ ?_
  rotate_left
  · intro w'
    go_simp
    try with_reducible rfl
  rotate_left
  · simp only [Act.put, List.setIfInBounds_toArray, List.set_cons_zero, List.set_cons_succ, i64_w, i32_w]
    rfl
  refine pure_ (i := 1) (N := some 31) (v := ?_) (a' := ?_) #[true, true, false, false, false, false, false, false, false, false, false, false, false, false, false, false, false, false, false, false, false, false, false, false, false, false, false, false, false, false, false, false, false, false, false, false] rfl rfl (by kernel_rfl) (fun _ _ _ h => h) (Or.inl ⟨by rfl, ?_⟩) ?_ ?_
  rotate_left
  · intro w'
    go_simp
    try with_reducible rfl
  rotate_left
  · simp only [Act.put, List.setIfInBounds_toArray, List.set_cons_zero, List.set_cons_succ, i64_w, i32_w]
    rfl
  refine one_ (i := 2) (N := some 32) #[true, true, true, false, false, false, false, false, false, false, false, false, false, false, false, false, false, false, false, false, false, false, false, false, false, false, false, false, false, false, false, false, false, false, false, false] rfl rfl (by kernel_rfl) (by decide) (fun K hK => ?_)
  refine goes_ Try.func34 (by kernel_rfl) rfl #[.pointer (some ⟨g1, 0, none⟩), .int .i64 N, .int .i64 32] (by rfl) rfl rfl (by (try simp only [List.map_toArray, List.map_cons, List.map_nil]); first | done | rfl) ?_
  refine (Put_okK g1 v1 [] N 32 32 w2.drew rfl HW2.out.drew (by decide) N0.out N1'.out (by decide)).mono ?_
  rintro e w3 ⟨rfl, v3, h1, h2⟩
  rw [List.nil_append, HL.out] at h1
  have HW3 := Aside0.mk h1
  have hx := did_below (below_drew1 HB2.out) HF1.out h2
  have HB3 := Aside0.mk hx.1
  have HF3 := Aside0.mk hx.2
  have hy := HV2.out.drew.apart HAP.out.symm h2
  have HV3 := Aside0.mk hy.1
  have HAP3 := Aside0.mk hy.2
  clear h1 h2 hx hy
  refine ⟨_, rfl, ?_⟩
  refine hK.out _ _ trivial (fun hHeld => ?_)
  clear hK K
  refine norm_ (a' := ?_) ?_ ?_
  rotate_left
  · show Act.put _ (some 32) _ = _
    simp only [Act.put, List.setIfInBounds_toArray, List.set_cons_zero, List.set_cons_succ, i64_w, i32_w]
    rfl
  refine pure_ (i := 3) (N := some 33) (v := ?_) (a' := ?_) #[true, true, true, true, false, false, false, false, false, false, false, false, false, false, false, false, false, false, false, false, false, false, false, false, false, false, false, false, false, false, false, false, false, false, false, false] rfl rfl (by kernel_rfl) (fun _ _ _ h => h) (Or.inl ⟨by rfl, ?_⟩) ?_ ?_
  rotate_left
  · intro w'
    go_simp
    try with_reducible rfl
  rotate_left
  · simp only [Act.put, List.setIfInBounds_toArray, List.set_cons_zero, List.set_cons_succ, i64_w, i32_w]
    rfl
  refine pure_ (i := 4) (N := some 34) (v := ?_) (a' := ?_) #[true, true, true, true, true, false, false, false, false, false, false, false, false, false, false, false, false, false, false, false, false, false, false, false, false, false, false, false, false, false, false, false, false, false, false, false] rfl rfl (by kernel_rfl) (fun _ _ _ h => h) (Or.inl ⟨by rfl, ?_⟩) ?_ ?_
  rotate_left
  · intro w'
    go_simp
    try with_reducible rfl
  rotate_left
  · simp only [Act.put, List.setIfInBounds_toArray, List.set_cons_zero, List.set_cons_succ, i64_w, i32_w]
    rfl
  refine pure_ (i := 5) (N := some 35) (v := ?_) (a' := ?_) #[true, true, true, true, true, true, false, false, false, false, false, false, false, false, false, false, false, false, false, false, false, false, false, false, false, false, false, false, false, false, false, false, false, false, false, false] rfl rfl (by kernel_rfl) (fun _ _ _ h => h) (Or.inl ⟨by rfl, ?_⟩) ?_ ?_
  rotate_left
  · intro w'
    go_simp
    try with_reducible rfl
  rotate_left
  · simp only [Act.put, List.setIfInBounds_toArray, List.set_cons_zero, List.set_cons_succ, i64_w, i32_w]
    rfl
  refine pure_ (i := 6) (N := some 36) (v := ?_) (a' := ?_) #[true, true, true, true, true, true, true, false, false, false, false, false, false, false, false, false, false, false, false, false, false, false, false, false, false, false, false, false, false, false, false, false, false, false, false, false] rfl rfl (by kernel_rfl) (fun _ _ _ h => h) (Or.inl ⟨by rfl, ?_⟩) ?_ ?_
  rotate_left
  · intro w'
    go_simp
    try with_reducible rfl
  rotate_left
  · simp only [Act.put, List.setIfInBounds_toArray, List.set_cons_zero, List.set_cons_succ, i64_w, i32_w]
    rfl
  refine pure_ (i := 7) (N := some 37) (v := ?_) (a' := ?_) #[true, true, true, true, true, true, true, true, false, false, false, false, false, false, false, false, false, false, false, false, false, false, false, false, false, false, false, false, false, false, false, false, false, false, false, false] rfl rfl (by kernel_rfl) (fun _ _ _ h => h) (Or.inl ⟨by rfl, ?_⟩) ?_ ?_
  rotate_left
  · intro w'
    go_simp
    try with_reducible rfl
  rotate_left
  · simp only [Act.put, List.setIfInBounds_toArray, List.set_cons_zero, List.set_cons_succ, i64_w, i32_w]
    rfl
  refine pure_ (i := 8) (N := some 38) (v := ?_) (a' := ?_) #[true, true, true, true, true, true, true, true, true, false, false, false, false, false, false, false, false, false, false, false, false, false, false, false, false, false, false, false, false, false, false, false, false, false, false, false] rfl rfl (by kernel_rfl) (fun _ _ _ h => h) (Or.inl ⟨by rfl, ?_⟩) ?_ ?_
  rotate_left
  · intro w'
    go_simp
    try with_reducible rfl
  rotate_left
  · simp only [Act.put, List.setIfInBounds_toArray, List.set_cons_zero, List.set_cons_succ, i64_w, i32_w]
    rfl
  refine pure_ (i := 9) (N := some 39) (v := ?_) (a' := ?_) #[true, true, true, true, true, true, true, true, true, true, false, false, false, false, false, false, false, false, false, false, false, false, false, false, false, false, false, false, false, false, false, false, false, false, false, false] rfl rfl (by kernel_rfl) (fun _ _ _ h => h) (Or.inl ⟨by rfl, ?_⟩) ?_ ?_
  rotate_left
  · intro w'
    go_simp
    try with_reducible rfl
  rotate_left
  · simp only [Act.put, List.setIfInBounds_toArray, List.set_cons_zero, List.set_cons_succ, i64_w, i32_w]
    rfl
  refine pure_ (i := 10) (N := some 40) (v := ?_) (a' := ?_) #[true, true, true, true, true, true, true, true, true, true, true, false, false, false, false, false, false, false, false, false, false, false, false, false, false, false, false, false, false, false, false, false, false, false, false, false] rfl rfl (by kernel_rfl) (fun _ _ _ h => h) (Or.inl ⟨by rfl, ?_⟩) ?_ ?_
  rotate_left
  · intro w'
    go_simp
    try with_reducible rfl
  rotate_left
  · simp only [Act.put, List.setIfInBounds_toArray, List.set_cons_zero, List.set_cons_succ, i64_w, i32_w]
    rfl
  refine one_ (i := 11) (N := some 41) #[true, true, true, true, true, true, true, true, true, true, true, true, false, false, false, false, false, false, false, false, false, false, false, false, false, false, false, false, false, false, false, false, false, false, false, false] rfl rfl (by kernel_rfl) (by decide) (fun K hK => ?_)
  refine goes_ Try.func34 (by kernel_rfl) rfl #[.pointer (some ⟨g2, 0, none⟩), .int .i64 N1, .int .i64 C] (by rfl) rfl rfl (by (try simp only [List.map_toArray, List.map_cons, List.map_nil]); first | done | rfl) ?_
  refine (Put_okK g2 v2 [] N1 c C w3 CC.out HV3.out HC1.out M0.out M1'.out (by decide)).mono ?_
  rintro e w4 ⟨rfl, v4, h1, h2⟩
  have HV4 := Aside0.mk h1
  have hx := did_below HB3.out HF2.out h2
  have HB4 := Aside0.mk hx.1
  have HF4 := Aside0.mk hx.2
  have hy := HW3.out.apart HAP3.out.symm h2
  have HW4 := Aside0.mk hy.1
  have HAP4 := Aside0.mk hy.2
  clear h1 h2 hx hy
  refine ⟨_, rfl, ?_⟩
  refine hK.out _ _ trivial (fun hHeld => ?_)
  clear hK K
  refine norm_ (a' := ?_) ?_ ?_
  rotate_left
  · show Act.put _ (some 41) _ = _
    simp only [Act.put, List.setIfInBounds_toArray, List.set_cons_zero, List.set_cons_succ, i64_w, i32_w]
    rfl
  refine pure_ (i := 12) (N := some 42) (v := ?_) (a' := ?_) #[true, true, true, true, true, true, true, true, true, true, true, true, true, false, false, false, false, false, false, false, false, false, false, false, false, false, false, false, false, false, false, false, false, false, false, false] rfl rfl (by kernel_rfl) (fun _ _ _ h => h) (Or.inl ⟨by rfl, ?_⟩) ?_ ?_
  rotate_left
  · intro w'
    go_simp
    try with_reducible rfl
  rotate_left
  · simp only [Act.put, List.setIfInBounds_toArray, List.set_cons_zero, List.set_cons_succ, i64_w, i32_w]
    rfl
  refine pure_ (i := 13) (N := some 43) (v := ?_) (a' := ?_) #[true, true, true, true, true, true, true, true, true, true, true, true, true, true, false, false, false, false, false, false, false, false, false, false, false, false, false, false, false, false, false, false, false, false, false, false] rfl rfl (by kernel_rfl) (fun _ _ _ h => h) (Or.inl ⟨by rfl, ?_⟩) ?_ ?_
  rotate_left
  · intro w'
    go_simp
    try with_reducible rfl
  rotate_left
  · simp only [Act.put, List.setIfInBounds_toArray, List.set_cons_zero, List.set_cons_succ, i64_w, i32_w]
    rfl
  refine pure_ (i := 14) (N := some 44) (v := ?_) (a' := ?_) #[true, true, true, true, true, true, true, true, true, true, true, true, true, true, true, false, false, false, false, false, false, false, false, false, false, false, false, false, false, false, false, false, false, false, false, false] rfl rfl (by kernel_rfl) (fun _ _ _ h => h) (Or.inl ⟨by rfl, ?_⟩) ?_ ?_
  rotate_left
  · intro w'
    go_simp
    try with_reducible rfl
  rotate_left
  · simp only [Act.put, List.setIfInBounds_toArray, List.set_cons_zero, List.set_cons_succ, i64_w, i32_w]
    rfl
  refine pure_ (i := 15) (N := some 45) (v := ?_) (a' := ?_) #[true, true, true, true, true, true, true, true, true, true, true, true, true, true, true, true, false, false, false, false, false, false, false, false, false, false, false, false, false, false, false, false, false, false, false, false] rfl rfl (by kernel_rfl) (fun _ _ _ h => h) (Or.inl ⟨by rfl, ?_⟩) ?_ ?_
  rotate_left
  · intro w'
    go_simp
    try with_reducible rfl
  rotate_left
  · simp only [Act.put, List.setIfInBounds_toArray, List.set_cons_zero, List.set_cons_succ, i64_w, i32_w]
    rfl
  refine pure_ (i := 16) (N := some 46) (v := ?_) (a' := ?_) #[true, true, true, true, true, true, true, true, true, true, true, true, true, true, true, true, true, false, false, false, false, false, false, false, false, false, false, false, false, false, false, false, false, false, false, false] rfl rfl (by kernel_rfl) (fun _ _ _ h => h) (Or.inl ⟨by rfl, ?_⟩) ?_ ?_
  rotate_left
  · intro w'
    go_simp
    try with_reducible rfl
  rotate_left
  · simp only [Act.put, List.setIfInBounds_toArray, List.set_cons_zero, List.set_cons_succ, i64_w, i32_w]
    rfl
  refine pure_ (i := 17) (N := some 47) (v := ?_) (a' := ?_) #[true, true, true, true, true, true, true, true, true, true, true, true, true, true, true, true, true, true, false, false, false, false, false, false, false, false, false, false, false, false, false, false, false, false, false, false] rfl rfl (by kernel_rfl) (fun _ _ _ h => h) (Or.inl ⟨by rfl, ?_⟩) ?_ ?_
  rotate_left
  · intro w'
    go_simp
    try with_reducible rfl
  rotate_left
  · simp only [Act.put, List.setIfInBounds_toArray, List.set_cons_zero, List.set_cons_succ, i64_w, i32_w]
    rfl
  refine pure_ (i := 18) (N := some 48) (v := ?_) (a' := ?_) #[true, true, true, true, true, true, true, true, true, true, true, true, true, true, true, true, true, true, true, false, false, false, false, false, false, false, false, false, false, false, false, false, false, false, false, false] rfl rfl (by kernel_rfl) (fun _ _ _ h => h) (Or.inl ⟨by rfl, ?_⟩) ?_ ?_
  rotate_left
  · intro w'
    go_simp
    try with_reducible rfl
  rotate_left
  · simp only [Act.put, List.setIfInBounds_toArray, List.set_cons_zero, List.set_cons_succ, i64_w, i32_w]
    rfl
  refine pure_ (i := 19) (N := some 49) (v := ?_) (a' := ?_) #[true, true, true, true, true, true, true, true, true, true, true, true, true, true, true, true, true, true, true, true, false, false, false, false, false, false, false, false, false, false, false, false, false, false, false, false] rfl rfl (by kernel_rfl) (fun _ _ _ h => h) (Or.inl ⟨by rfl, ?_⟩) ?_ ?_
  rotate_left
  · intro w'
    go_simp
    try with_reducible rfl
  rotate_left
  · simp only [Act.put, List.setIfInBounds_toArray, List.set_cons_zero, List.set_cons_succ, i64_w, i32_w]
    rfl
  refine pure_ (i := 20) (N := some 50) (v := ?_) (a' := ?_) #[true, true, true, true, true, true, true, true, true, true, true, true, true, true, true, true, true, true, true, true, true, false, false, false, false, false, false, false, false, false, false, false, false, false, false, false] rfl rfl (by kernel_rfl) (fun _ _ _ h => h) (Or.inl ⟨by rfl, ?_⟩) ?_ ?_
  rotate_left
  · intro w'
    go_simp
    try with_reducible rfl
  rotate_left
  · simp only [Act.put, List.setIfInBounds_toArray, List.set_cons_zero, List.set_cons_succ, i64_w, i32_w]
    rfl
  refine pure_ (i := 21) (N := some 51) (v := ?_) (a' := ?_) #[true, true, true, true, true, true, true, true, true, true, true, true, true, true, true, true, true, true, true, true, true, true, false, false, false, false, false, false, false, false, false, false, false, false, false, false] rfl rfl (by kernel_rfl) (fun _ _ _ h => h) (Or.inl ⟨by rfl, ?_⟩) ?_ ?_
  rotate_left
  · intro w'
    go_simp
    try with_reducible rfl
  rotate_left
  · simp only [Act.put, List.setIfInBounds_toArray, List.set_cons_zero, List.set_cons_succ, i64_w, i32_w]
    rfl
  refine pure_ (i := 22) (N := some 52) (v := ?_) (a' := ?_) #[true, true, true, true, true, true, true, true, true, true, true, true, true, true, true, true, true, true, true, true, true, true, true, false, false, false, false, false, false, false, false, false, false, false, false, false] rfl rfl (by kernel_rfl) (fun _ _ _ h => h) (Or.inl ⟨by rfl, ?_⟩) ?_ ?_
  rotate_left
  · intro w'
    go_simp
    try with_reducible rfl
  rotate_left
  · simp only [Act.put, List.setIfInBounds_toArray, List.set_cons_zero, List.set_cons_succ, i64_w, i32_w]
    rfl
  refine pure_ (i := 23) (N := some 53) (v := ?_) (a' := ?_) #[true, true, true, true, true, true, true, true, true, true, true, true, true, true, true, true, true, true, true, true, true, true, true, true, false, false, false, false, false, false, false, false, false, false, false, false] rfl rfl (by kernel_rfl) (fun _ _ _ h => h) (Or.inl ⟨by rfl, ?_⟩) ?_ ?_
  rotate_left
  · intro w'
    go_simp
    try with_reducible rfl
  rotate_left
  · simp only [Act.put, List.setIfInBounds_toArray, List.set_cons_zero, List.set_cons_succ, i64_w, i32_w]
    rfl
  refine one_ (i := 24) (N := some 54) #[true, true, true, true, true, true, true, true, true, true, true, true, true, true, true, true, true, true, true, true, true, true, true, true, true, false, false, false, false, false, false, false, false, false, false, false] rfl rfl (by kernel_rfl) (by decide) (fun K hK => ?_)
  refine goes_ Try.func34 (by kernel_rfl) rfl #[.pointer (some ⟨g2, 0, none⟩), .int .i64 N2, .int .i64 Z] (by rfl) rfl rfl (by (try simp only [List.map_toArray, List.map_cons, List.map_nil]); first | done | rfl) ?_
  refine (Put_okK g2 v4 _ N2 (32 - c) Z w4 CZ.out HV4.out (by omega) K0.out K1.out (by simp [bitsOf_len]; have := HC1.out; omega)).mono ?_
  rintro e w5 ⟨rfl, v5, h1, h2⟩
  rw [List.nil_append, HL2.out] at h1
  have HV5 := Aside0.mk h1
  have hx := did_below HB4.out HF4.out h2
  have HB5 := Aside0.mk hx.1
  have HF5 := Aside0.mk hx.2
  have hy := HW4.out.apart HAP4.out h2
  have HW5 := Aside0.mk hy.1
  clear h1 h2 hx hy
  refine ⟨_, rfl, ?_⟩
  refine hK.out _ _ trivial (fun hHeld => ?_)
  clear hK K
  refine norm_ (a' := ?_) ?_ ?_
  rotate_left
  · show Act.put _ (some 54) _ = _
    simp only [Act.put, List.setIfInBounds_toArray, List.set_cons_zero, List.set_cons_succ, i64_w, i32_w]
    rfl
  refine pure_ (i := 25) (N := some 55) (v := ?_) (a' := ?_) #[true, true, true, true, true, true, true, true, true, true, true, true, true, true, true, true, true, true, true, true, true, true, true, true, true, true, false, false, false, false, false, false, false, false, false, false] rfl rfl (by kernel_rfl) (fun _ _ _ h => h) (Or.inl ⟨by rfl, ?_⟩) ?_ ?_
  rotate_left
  · intro w'
    go_simp
    try with_reducible rfl
  rotate_left
  · simp only [Act.put, List.setIfInBounds_toArray, List.set_cons_zero, List.set_cons_succ, i64_w, i32_w]
    rfl
  refine pure_ (i := 26) (N := some 56) (v := ?_) (a' := ?_) #[true, true, true, true, true, true, true, true, true, true, true, true, true, true, true, true, true, true, true, true, true, true, true, true, true, true, true, false, false, false, false, false, false, false, false, false] rfl rfl (by kernel_rfl) (fun _ _ _ h => h) (Or.inl ⟨by rfl, ?_⟩) ?_ ?_
  rotate_left
  · intro w'
    go_simp
    try with_reducible rfl
  rotate_left
  · simp only [Act.put, List.setIfInBounds_toArray, List.set_cons_zero, List.set_cons_succ, i64_w, i32_w]
    rfl
  refine pure_ (i := 27) (N := some 57) (v := ?_) (a' := ?_) #[true, true, true, true, true, true, true, true, true, true, true, true, true, true, true, true, true, true, true, true, true, true, true, true, true, true, true, true, false, false, false, false, false, false, false, false] rfl rfl (by kernel_rfl) (fun _ _ _ h => h) (Or.inl ⟨by rfl, ?_⟩) ?_ ?_
  rotate_left
  · intro w'
    go_simp
    try with_reducible rfl
  rotate_left
  · simp only [Act.put, List.setIfInBounds_toArray, List.set_cons_zero, List.set_cons_succ, i64_w, i32_w]
    rfl
  refine pure_ (i := 28) (N := some 58) (v := ?_) (a' := ?_) #[true, true, true, true, true, true, true, true, true, true, true, true, true, true, true, true, true, true, true, true, true, true, true, true, true, true, true, true, true, false, false, false, false, false, false, false] rfl rfl (by kernel_rfl) (fun _ _ _ h => h) (Or.inl ⟨by rfl, ?_⟩) ?_ ?_
  rotate_left
  · intro w'
    go_simp
    try with_reducible rfl
  rotate_left
  · simp only [Act.put, List.setIfInBounds_toArray, List.set_cons_zero, List.set_cons_succ, i64_w, i32_w]
    rfl
  refine pure_ (i := 31) (N := some 61) (v := ?_) (a' := ?_) #[true, true, true, true, true, true, true, true, true, true, true, true, true, true, true, true, true, true, true, true, true, true, true, true, true, true, true, true, true, false, false, true, false, false, false, false] rfl rfl (by kernel_rfl) (fun _ _ _ h => h) (Or.inl ⟨by rfl, ?_⟩) ?_ ?_
  rotate_left
  · intro w'
    go_simp
    try with_reducible rfl
  rotate_left
  · simp only [Act.put, List.setIfInBounds_toArray, List.set_cons_zero, List.set_cons_succ, i64_w, i32_w]
    rfl
  refine one_ (i := 29) (N := some 59) #[true, true, true, true, true, true, true, true, true, true, true, true, true, true, true, true, true, true, true, true, true, true, true, true, true, true, true, true, true, true, false, true, false, false, false, false] rfl rfl (by kernel_rfl) (by decide) (fun K hK => ?_)
  refine goes_ Try.func41 (by kernel_rfl) rfl #[.pointer (some ⟨g1, 0, none⟩)] (by rfl) rfl rfl (by (try simp only [List.map_toArray, List.map_cons, List.map_nil]); first | done | rfl) ?_
  refine (Bytes_str2 g1 v3 L w5 HW5.out (by have := HLEN.out; omega)).mono ?_
  rintro e w6 ⟨A6, n6, c6, rfl, hcv6, hcw6, hb6⟩
  have HB6 := Aside0.mk (new_below HB5.out hb6)
  have HCW6 := Aside0.mk hcw6
  have HB56 := Aside0.mk hb6
  clear hcw6 hb6
  refine ⟨_, rfl, ?_⟩
  refine hK.out _ _ trivial (fun hHeld => ?_)
  clear hK K
  refine norm_ (a' := ?_) ?_ ?_
  rotate_left
  · show Act.put _ (some 59) _ = _
    simp only [Act.put, List.setIfInBounds_toArray, List.set_cons_zero, List.set_cons_succ, i64_w, i32_w]
    rfl
  refine two_ (i := 30) (j := 32) (Ni := some 60) (Nj := some 62) #[true, true, true, true, true, true, true, true, true, true, true, true, true, true, true, true, true, true, true, true, true, true, true, true, true, true, true, true, true, true, true, true, false, false, false, false] #[true, true, true, true, true, true, true, true, true, true, true, true, true, true, true, true, true, true, true, true, true, true, true, true, true, true, true, true, true, true, false, true, true, false, false, false] rfl rfl rfl rfl (by kernel_rfl) (by decide) (by decide) (fun K hK => ?_) (fun K hK => ?_)
  · go_simp
    refine hK.out _ _ trivial (fun hHeld => ?_)
    clear hK K
    refine one_ (i := 32) (N := some 62) #[true, true, true, true, true, true, true, true, true, true, true, true, true, true, true, true, true, true, true, true, true, true, true, true, true, true, true, true, true, true, true, true, true, false, false, false] rfl rfl (by kernel_rfl) (by decide) (fun K hK => ?_)
    refine goes_ Try.func41 (by kernel_rfl) rfl #[.pointer (some ⟨g2, 0, none⟩)] (by rfl) rfl rfl (by (try simp only [List.map_toArray, List.map_cons, List.map_nil]); first | done | rfl) ?_
    refine (Bytes_str2 g2 v5 L w6 (HV5.out.below HB56.out) (by have := HLEN.out; omega)).mono ?_
    rintro e w7 ⟨A7, n7, c7, rfl, hcv7, hcw7, hb7⟩
    have hcv6b := HCW6.out _ hb7
    have HV7 := Aside0.mk ((HV5.out.below HB56.out).below hb7)
    have HB7 := Aside0.mk (new_below HB6.out hb7)
    clear hcw7 hb7
    refine ⟨_, rfl, ?_⟩
    refine hK.out _ _ trivial (fun hHeld => ?_)
    clear hK K
    refine norm_ (a' := ?_) ?_ ?_
    rotate_left
    · show Act.put _ (some 62) _ = _
      simp only [Act.put, List.setIfInBounds_toArray, List.set_cons_zero, List.set_cons_succ, i64_w, i32_w]
      rfl
    refine one_ (i := 33) (N := some 63) #[true, true, true, true, true, true, true, true, true, true, true, true, true, true, true, true, true, true, true, true, true, true, true, true, true, true, true, true, true, true, true, true, true, true, false, false] rfl rfl (by kernel_rfl) (by decide) (fun K hK => ?_)
    go_simp
    refine hK.out _ _ trivial (fun hHeld => ?_)
    clear hK K
    refine pure_ (i := 34) (N := some 64) (v := ?_) (a' := ?_) #[true, true, true, true, true, true, true, true, true, true, true, true, true, true, true, true, true, true, true, true, true, true, true, true, true, true, true, true, true, true, true, true, true, true, true, false] rfl rfl (by kernel_rfl) (fun _ _ _ h => h) (Or.inl ⟨by rfl, ?_⟩) ?_ ?_
    rotate_left
    · intro w'
      go_simp
      try with_reducible rfl
    rotate_left
    · simp only [Act.put, List.setIfInBounds_toArray, List.set_cons_zero, List.set_cons_succ, i64_w, i32_w]
      rfl
    refine pure_ (i := 35) (N := some 65) (v := ?_) (a' := ?_) #[true, true, true, true, true, true, true, true, true, true, true, true, true, true, true, true, true, true, true, true, true, true, true, true, true, true, true, true, true, true, true, true, true, true, true, true] rfl rfl (by kernel_rfl) (fun _ _ _ h => h) (Or.inl ⟨by rfl, ?_⟩) ?_ ?_
    rotate_left
    · intro w'
      go_simp
      try with_reducible rfl
    rotate_left
    · simp only [Act.put, List.setIfInBounds_toArray, List.set_cons_zero, List.set_cons_succ, i64_w, i32_w]
      rfl
    refine done_ (by kernel_rfl) ?_
    go_wp2_with (first | (go_at_call 39; refine (Left_calls gr vr (pack L) (o + (32 - o)) _ HR10.out (by have := HPL.out; omega) (by have := HO1.out; omega)).mono ?_; rintro e w11 ⟨rfl, ⟨nd, rfl⟩⟩; rw [show (8 * ((pack L).length : Int) - ((o + (32 - o) : Nat) : Int)) = 0 by have := HPL.out; have := HO1.out; omega]) | (go_at_call 40; refine (Get_okK gr vr (pack L) o (32 - o) Y w9 CY.out HR9.out (by omega) HBY.out (by have := HPL.out; omega) (by have := HPL.out; have := HO1.out; omega)).mono ?_; rintro e w10 ⟨rfl, h1, h2⟩; rw [HB'.out]; have HR10 := Aside0.mk h1; have HB10 := Aside0.mk (rdr_below HB9.out HG.out h2); clear h1 h2) | (go_at_call 40; refine (Get_okK gr vr (pack L) 0 o O w8b CO.out HR.out HO1.out HBY.out (by have := HPL.out; omega) (by have := HPL.out; have := HO1.out; omega)).mono ?_; rintro e w9 ⟨rfl, h1, h2⟩; rw [HA.out]; rw [Nat.zero_add] at h1; have HR9 := Aside0.mk h1; have HB9 := Aside0.mk (rdr_below HB8b.out HG.out h2); clear h1 h2) | (go_at_call 38; refine (NewReader_calls _ _ (pack L) w8 HC8.out (by have := HPL.out; omega)).mono ?_; rintro e w8b ⟨gr, vr, rfl, hg, hr, hv, hb⟩; have HR := Aside0.mk hr; have HB8b := Aside0.mk (new_below HB8.out hb); have HG := Aside0.mk (Nat.le_trans HB8.out.size hg); clear hg hr hv hb) | (go_at_call 41; refine (Bytes_calls g2 v5 L w7 HV7.out (by have := HLEN.out; omega)).mono ?_; rintro e w8 ⟨v0, rfl, hr, hb⟩; obtain ⟨A8, c8, rfl⟩ := Kd.R_slice hr; have HC8 := Aside0.mk (Kd.R_reads' hr).2.2; have HB8 := Aside0.mk (new_below HB7.out hb); clear hr hb))
    go_ret
    exact ⟨by first | rfl | simp, by first | exact HB10.out | exact pw_below_drewN HB10.out _⟩
  · refine goes_ Try.func41 (by kernel_rfl) rfl #[.pointer (some ⟨g2, 0, none⟩)] (by rfl) rfl rfl (by (try simp only [List.map_toArray, List.map_cons, List.map_nil]); first | done | rfl) ?_
    refine (Bytes_str2 g2 v5 L w6 (HV5.out.below HB56.out) (by have := HLEN.out; omega)).mono ?_
    rintro e w7 ⟨A7, n7, c7, rfl, hcv7, hcw7, hb7⟩
    have hcv6b := HCW6.out _ hb7
    have HV7 := Aside0.mk ((HV5.out.below HB56.out).below hb7)
    have HB7 := Aside0.mk (new_below HB6.out hb7)
    clear hcw7 hb7
    refine ⟨_, rfl, ?_⟩
    refine hK.out _ _ trivial (fun hHeld => ?_)
    clear hK K
    refine norm_ (a' := ?_) ?_ ?_
    rotate_left
    · show Act.put _ (some 62) _ = _
      simp only [Act.put, List.setIfInBounds_toArray, List.set_cons_zero, List.set_cons_succ, i64_w, i32_w]
      rfl
    refine two_ (i := 30) (j := 33) (Ni := some 60) (Nj := some 63) #[true, true, true, true, true, true, true, true, true, true, true, true, true, true, true, true, true, true, true, true, true, true, true, true, true, true, true, true, true, true, true, true, true, false, false, false] #[true, true, true, true, true, true, true, true, true, true, true, true, true, true, true, true, true, true, true, true, true, true, true, true, true, true, true, true, true, true, false, true, true, true, false, false] rfl rfl rfl rfl (by kernel_rfl) (by decide) (by decide) (fun K hK => ?_) (fun K hK => ?_)
    · go_simp
      refine hK.out _ _ trivial (fun hHeld => ?_)
      clear hK K
      refine one_ (i := 33) (N := some 63) #[true, true, true, true, true, true, true, true, true, true, true, true, true, true, true, true, true, true, true, true, true, true, true, true, true, true, true, true, true, true, true, true, true, true, false, false] rfl rfl (by kernel_rfl) (by decide) (fun K hK => ?_)
      go_simp
      refine hK.out _ _ trivial (fun hHeld => ?_)
      clear hK K
      refine pure_ (i := 34) (N := some 64) (v := ?_) (a' := ?_) #[true, true, true, true, true, true, true, true, true, true, true, true, true, true, true, true, true, true, true, true, true, true, true, true, true, true, true, true, true, true, true, true, true, true, true, false] rfl rfl (by kernel_rfl) (fun _ _ _ h => h) (Or.inl ⟨by rfl, ?_⟩) ?_ ?_
      rotate_left
      · intro w'
        go_simp
        try with_reducible rfl
      rotate_left
      · simp only [Act.put, List.setIfInBounds_toArray, List.set_cons_zero, List.set_cons_succ, i64_w, i32_w]
        rfl
      refine pure_ (i := 35) (N := some 65) (v := ?_) (a' := ?_) #[true, true, true, true, true, true, true, true, true, true, true, true, true, true, true, true, true, true, true, true, true, true, true, true, true, true, true, true, true, true, true, true, true, true, true, true] rfl rfl (by kernel_rfl) (fun _ _ _ h => h) (Or.inl ⟨by rfl, ?_⟩) ?_ ?_
      rotate_left
      · intro w'
        go_simp
        try with_reducible rfl
      rotate_left
      · simp only [Act.put, List.setIfInBounds_toArray, List.set_cons_zero, List.set_cons_succ, i64_w, i32_w]
        rfl
      refine done_ (by kernel_rfl) ?_
      go_wp2_with (first | (go_at_call 39; refine (Left_calls gr vr (pack L) (o + (32 - o)) _ HR10.out (by have := HPL.out; omega) (by have := HO1.out; omega)).mono ?_; rintro e w11 ⟨rfl, ⟨nd, rfl⟩⟩; rw [show (8 * ((pack L).length : Int) - ((o + (32 - o) : Nat) : Int)) = 0 by have := HPL.out; have := HO1.out; omega]) | (go_at_call 40; refine (Get_okK gr vr (pack L) o (32 - o) Y w9 CY.out HR9.out (by omega) HBY.out (by have := HPL.out; omega) (by have := HPL.out; have := HO1.out; omega)).mono ?_; rintro e w10 ⟨rfl, h1, h2⟩; rw [HB'.out]; have HR10 := Aside0.mk h1; have HB10 := Aside0.mk (rdr_below HB9.out HG.out h2); clear h1 h2) | (go_at_call 40; refine (Get_okK gr vr (pack L) 0 o O w8b CO.out HR.out HO1.out HBY.out (by have := HPL.out; omega) (by have := HPL.out; have := HO1.out; omega)).mono ?_; rintro e w9 ⟨rfl, h1, h2⟩; rw [HA.out]; rw [Nat.zero_add] at h1; have HR9 := Aside0.mk h1; have HB9 := Aside0.mk (rdr_below HB8b.out HG.out h2); clear h1 h2) | (go_at_call 38; refine (NewReader_calls _ _ (pack L) w8 HC8.out (by have := HPL.out; omega)).mono ?_; rintro e w8b ⟨gr, vr, rfl, hg, hr, hv, hb⟩; have HR := Aside0.mk hr; have HB8b := Aside0.mk (new_below HB8.out hb); have HG := Aside0.mk (Nat.le_trans HB8.out.size hg); clear hg hr hv hb) | (go_at_call 41; refine (Bytes_calls g2 v5 L w7 HV7.out (by have := HLEN.out; omega)).mono ?_; rintro e w8 ⟨v0, rfl, hr, hb⟩; obtain ⟨A8, c8, rfl⟩ := Kd.R_slice hr; have HC8 := Aside0.mk (Kd.R_reads' hr).2.2; have HB8 := Aside0.mk (new_below HB7.out hb); clear hr hb))
      go_ret
      exact ⟨by first | rfl | simp, by first | exact HB10.out | exact pw_below_drewN HB10.out _⟩
    · go_simp
      refine hK.out _ _ trivial (fun hHeld => ?_)
      clear hK K
      refine one_ (i := 30) (N := some 60) #[true, true, true, true, true, true, true, true, true, true, true, true, true, true, true, true, true, true, true, true, true, true, true, true, true, true, true, true, true, true, true, true, true, true, false, false] rfl rfl (by kernel_rfl) (by decide) (fun K hK => ?_)
      go_simp
      refine hK.out _ _ trivial (fun hHeld => ?_)
      clear hK K
      refine pure_ (i := 34) (N := some 64) (v := ?_) (a' := ?_) #[true, true, true, true, true, true, true, true, true, true, true, true, true, true, true, true, true, true, true, true, true, true, true, true, true, true, true, true, true, true, true, true, true, true, true, false] rfl rfl (by kernel_rfl) (fun _ _ _ h => h) (Or.inl ⟨by rfl, ?_⟩) ?_ ?_
      rotate_left
      · intro w'
        go_simp
        try with_reducible rfl
      rotate_left
      · simp only [Act.put, List.setIfInBounds_toArray, List.set_cons_zero, List.set_cons_succ, i64_w, i32_w]
        rfl
      refine pure_ (i := 35) (N := some 65) (v := ?_) (a' := ?_) #[true, true, true, true, true, true, true, true, true, true, true, true, true, true, true, true, true, true, true, true, true, true, true, true, true, true, true, true, true, true, true, true, true, true, true, true] rfl rfl (by kernel_rfl) (fun _ _ _ h => h) (Or.inl ⟨by rfl, ?_⟩) ?_ ?_
      rotate_left
      · intro w'
        go_simp
        try with_reducible rfl
      rotate_left
      · simp only [Act.put, List.setIfInBounds_toArray, List.set_cons_zero, List.set_cons_succ, i64_w, i32_w]
        rfl
      refine done_ (by kernel_rfl) ?_
      go_wp2_with (first | (go_at_call 39; refine (Left_calls gr vr (pack L) (o + (32 - o)) _ HR10.out (by have := HPL.out; omega) (by have := HO1.out; omega)).mono ?_; rintro e w11 ⟨rfl, ⟨nd, rfl⟩⟩; rw [show (8 * ((pack L).length : Int) - ((o + (32 - o) : Nat) : Int)) = 0 by have := HPL.out; have := HO1.out; omega]) | (go_at_call 40; refine (Get_okK gr vr (pack L) o (32 - o) Y w9 CY.out HR9.out (by omega) HBY.out (by have := HPL.out; omega) (by have := HPL.out; have := HO1.out; omega)).mono ?_; rintro e w10 ⟨rfl, h1, h2⟩; rw [HB'.out]; have HR10 := Aside0.mk h1; have HB10 := Aside0.mk (rdr_below HB9.out HG.out h2); clear h1 h2) | (go_at_call 40; refine (Get_okK gr vr (pack L) 0 o O w8b CO.out HR.out HO1.out HBY.out (by have := HPL.out; omega) (by have := HPL.out; have := HO1.out; omega)).mono ?_; rintro e w9 ⟨rfl, h1, h2⟩; rw [HA.out]; rw [Nat.zero_add] at h1; have HR9 := Aside0.mk h1; have HB9 := Aside0.mk (rdr_below HB8b.out HG.out h2); clear h1 h2) | (go_at_call 38; refine (NewReader_calls _ _ (pack L) w8 HC8.out (by have := HPL.out; omega)).mono ?_; rintro e w8b ⟨gr, vr, rfl, hg, hr, hv, hb⟩; have HR := Aside0.mk hr; have HB8b := Aside0.mk (new_below HB8.out hb); have HG := Aside0.mk (Nat.le_trans HB8.out.size hg); clear hg hr hv hb) | (go_at_call 41; refine (Bytes_calls g2 v5 L w7 HV7.out (by have := HLEN.out; omega)).mono ?_; rintro e w8 ⟨v0, rfl, hr, hb⟩; obtain ⟨A8, c8, rfl⟩ := Kd.R_slice hr; have HC8 := Aside0.mk (Kd.R_reads' hr).2.2; have HB8 := Aside0.mk (new_below HB7.out hb); clear hr hb))
      go_ret
      exact ⟨by first | rfl | simp, by first | exact HB10.out | exact pw_below_drewN HB10.out _⟩

end Go.Proofs.Ytbigfkfnlbfkhaa.HBits
