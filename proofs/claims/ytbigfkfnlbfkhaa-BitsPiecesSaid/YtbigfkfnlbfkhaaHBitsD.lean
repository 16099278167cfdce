/- Layer 3: Unary of a Writer, Bytes, bytes.Clone; a Reader: NewReader, At, Left, a bit. -/
import Derived.Test.YtbigfkfnlbfkhaaHBitsC
namespace Go.Proofs.Ytbigfkfnlbfkhaa.HBits
open Go.RowKit Go.Proofs.YtbigfkfnlbfkhaaW.PrintWords Go.Proofs.YtbigfkfnlbfkhaaW.PrintLast Go.Proofs.YtbigfkfnlbfkhaaW.PrintMore Go.Proofs.Ytbigfkfnlbfkhaa.HBase Go.Proofs.Ytbigfkfnlbfkhaa.MBits
attribute [local go_sem] u8_max u8_sgn
set_option linter.unusedSimpArgs false
set_option linter.unusedVariables false

theorem rep_snoc (l : List Int) (k : Nat) : l ++ List.replicate k 0 ++ [0] = l ++ List.replicate (k + 1) (0 : Int) := by
  rw [List.append_assoc, List.replicate_succ', ]

set_option maxHeartbeats 4000000 in
set_option maxRecDepth 100000 in
theorem Unary_calls (g : Nat) (v : Value) (l : List Int) (m : Nat) (w : World) (h : Wl w g v l) (hm : m ≤ 65536) (hn : l.length ≤ 1000000000) :
    Calls Try.prog 58 #[.pointer (some ⟨g, 0, none⟩), .int .i64 m] w fun e w' => e = .returned (.int .i64 0) ∧ ∃ v', Wl w' g v' (l ++ List.replicate m 0 ++ [1]) ∧ Did w w' g v v' := by
  have hp := nil58
  have HW := Aside0.mk h
  have HN := Aside0.mk hn
  have HM := Aside0.mk hm
  obtain ⟨M, hM⟩ : ∃ M : Int, M = (m : Int) := ⟨_, rfl⟩
  rw [← hM]
  have HMM := Aside0.mk hM
  have c1 : decide (M < 0) = false := decide_eq_false (by omega)
  have c2 : decide (65536 < M) = false := decide_eq_false (by omega)
  clear h hn hm hM
  go_enter Try.func58, Try.ntmps58
  go_wp2
  go_loopg [16] m (fun kq v16 wr => ∃ (v' : Value) (i : Nat), v16 = .int .i64 (i : Int) ∧ Aside0 (Wl wr g v' (l ++ List.replicate i 0)) ∧ Aside0 (Did w wr g v v') ∧ Aside0 (i + kq = m))
  case atStart => exact ⟨v, 0, rfl, ⟨by simpa using HW.out⟩, ⟨Did.refl _ _ _⟩, ⟨by omega⟩⟩
  case round =>
    obtain ⟨v', i, rfl, HW', HD, HI⟩ := hrel
    by_cases c : i < m
    · have c3 : decide ((i : Int) < M) = true := decide_eq_true (by have := HMM.out; omega)
      have hw2 : wrap64 ((i : Int) + 1) = ((i + 1 : Nat) : Int) := by have := HM.out; unfold wrap64; omega
      have HW2 := Aside0.mk hw2
      have HC := Aside0.mk c
      clear c hw2
      go_wp2_with (go_at_call 68; refine (wbit g v' _ 0 wr HW'.out (.inl rfl) (by have := HN.out; have := HM.out; have := HI.out; simp; omega)).mono ?_; rintro e w1 ⟨rfl, v1, h1, h2⟩; rw [rep_snoc] at h1; have H1 := Aside0.mk h1; have H2 := Aside0.mk h2; clear h1 h2)
      rw [HW2.out]
      go_roundg (gk - 1)
      case measure => have := HI.out; have := HC.out; omega
      case rel => exact ⟨v1, i + 1, rfl, H1, ⟨HD.out.trans H2.out⟩, ⟨by have := HI.out; have := HC.out; omega⟩⟩
    · have c3 : decide ((i : Int) < M) = false := decide_eq_false (by have := HMM.out; omega)
      have hi : i = m := by have := HI.out; omega
      have HII := Aside0.mk hi
      clear c hi
      go_wp2_with (go_at_call 68; refine (wbit g v' _ 1 wr HW'.out (.inr rfl) (by have := HN.out; have := HM.out; have := HI.out; simp; omega)).mono ?_; rintro e w1 ⟨rfl, v1, h1, h2⟩; rw [HII.out] at h1; have H1 := Aside0.mk h1; have H2 := Aside0.mk h2; clear h1 h2)
      go_ret
      exact ⟨by first | rfl | simp, v1, H1.out, HD.out.trans H2.out⟩

set_option maxHeartbeats 4000000 in
set_option maxRecDepth 100000 in
theorem clone8 (A0 : Option Addr) (c0 : Nat) (l0 : List Int) (w : World) (hr0 : Kd.C (Kd.int .u8) w A0 l0.length l0) (hbig : l0.length < 17592186044416) :
    Calls Try.prog 62 #[.slice A0 l0.length c0] w fun e w' => ∃ v0_ : Value, e = .returned (v0_) ∧ Kd.R (Kd.int .u8) 5 w' w.heap.size (fun _ => True) v0_ l0 ∧ Below w.heap.size w w' := by
  have q34 : ∀ (w : World) (a : Option Addr) (n c n' c' : Nat), (binOp .eql 34 (.slice a n c) (.slice none n' c')).run Try.prog w = .ok (.bool a.isNone) w := fun w a n c n' c' => Lib.run_eql_slice_nil w _ _ a n c n' c' Try.underlying34
  have HR := Aside0.mk hr0
  clear hr0
  cases A0 with
  | none =>
    have hl : l0 = [] := by
      rcases Nat.eq_zero_or_pos l0.length with h0 | h0
      · exact List.eq_nil_of_length_eq_zero h0
      · obtain ⟨ad, e, _⟩ := HR.out.2.2 h0; cases e
    subst hl
    clear HR
    go_enter Try.func62, Try.ntmps62
    go_wp2
    go_ret
    exact ⟨_, rfl, Kd.R_nil _ _ _ _ _, Below.refl _ _⟩
  | some ad =>
    have HBig := Aside0.mk hbig
    go_enter Try.func62, Try.ntmps62
    go_wp2_with (at_builtin; refine Kd.R_append_rows (Kd.int .u8) (w0 := w) w.heap.size rfl _ _ 34 5 (.int .u8 0) 1 rfl Try.underlying34 info5 rfl (by decide) (by omega) _ ([] : List Int) l0 _ _ _ (fun _ => True) (fun _ => False) rfl rfl ?aO ?aR (fun _ _ h => h) (fun _ h => h.elim) ?aF ?aB ?aS ?aL ?_)
    case aO => exact Kd.R_of_own (World.ownsRow_made w #[] 0 (Nat.le_refl _) (Nat.zero_le _) rfl) (fun _ _ => trivial)
    case aR => exact Kd.C_alloc HR.out _
    case aF => exact fun _ _ => trivial
    case aB => exact below_alloc (Below.refl _ _) _
    case aS => simp
    case aL => have := HBig.out; simp; omega
    intro v1 w1 ho hb _ _
    have HO := Aside0.mk ho
    have HB := Aside0.mk hb
    clear ho hb
    go_wp2
    go_ret
    exact ⟨_, rfl, HO.out, HB.out⟩

set_option maxHeartbeats 4000000 in
set_option maxRecDepth 100000 in
theorem Bytes_calls (g : Nat) (v : Value) (l : List Int) (w : World) (h : Wl w g v l) (hn : l.length ≤ 1000000000) :
    Calls Try.prog 41 #[.pointer (some ⟨g, 0, none⟩)] w fun e w' => ∃ v0_ : Value, e = .returned v0_ ∧ Kd.R (Kd.int .u8) 5 w' w.heap.size (fun _ => True) v0_ (pack l) ∧ Below w.heap.size w w' := by
  have hp := nil58
  obtain ⟨A, c, rfl, hlc, hC⟩ := Kd.R_reads h.wr.row
  have hc0 : w.cell? ⟨g, 0, none⟩ = some (.slice A (pack l).length c) := (blk_cell h.wr.blk 0).trans rfl
  have HC := Aside0.mk hC
  have HL : Aside0 ((pack l).length < 17592186044416) := ⟨by rw [pack_len]; omega⟩
  clear h hC hn hlc
  go_enter Try.func41, Try.ntmps41
  go_wp2_with (go_at_call 62; refine (clone8 _ _ _ _ HC.out HL.out).mono ?_; rintro e w1 ⟨v0, rfl, h1, h2⟩; have H1 := Aside0.mk h1; have H2 := Aside0.mk h2; clear h1 h2)
  go_ret
  exact ⟨_, rfl, H1.out, H2.out⟩

set_option maxHeartbeats 4000000 in
set_option maxRecDepth 100000 in
theorem NewReader_calls (A0 : Option Addr) (c0 : Nat) (l0 : List Int) (w : World) (hr0 : Kd.C (Kd.int .u8) w A0 l0.length l0) (hbig : l0.length < 17592186044416) :
    Calls Try.prog 38 #[.slice A0 l0.length c0] w fun e w' => ∃ g v, e = .returned (.pointer (some ⟨g, 0, none⟩)) ∧ w.heap.size ≤ g ∧ Rr w' g v l0 0 ∧ (∀ k, v.ownBlock = some k → w.heap.size ≤ k) ∧ Below w.heap.size w w' := by
  have HR := Aside0.mk hr0
  have HBig := Aside0.mk hbig
  have hu88 := Try.underlying88
  clear hr0 hbig
  go_enter Try.func38, Try.ntmps38
  go_wp2_with (go_at_call 62; refine (clone8 _ _ _ _ HR.out HBig.out).mono ?_; rintro e w1 ⟨v0, rfl, h1, h2⟩; obtain ⟨A1, c1, rfl⟩ := Kd.R_slice h1; have H1 := Aside0.mk h1; have H2 := Aside0.mk h2; clear h1 h2)
  go_ret
  exact ⟨w1.heap.size, _, rfl, H2.out.size, ⟨by simpa using heap_alloc_new w1 _, Kd.R_alloc (Kd.R_lower H1.out (Nat.zero_le _)) _⟩, Kd.R_base H1.out, below_alloc H2.out _⟩

set_option maxHeartbeats 4000000 in
set_option maxRecDepth 100000 in
theorem At_calls (g : Nat) (v : Value) (bs : List Int) (n : Nat) (w : World) (h : Rr w g v bs n) :
    Calls Try.prog 43 #[.pointer (some ⟨g, 0, none⟩)] w fun e w' => e = .returned (.int .i64 n) ∧ w' = w := by
  have hc1 : w.cell? ⟨g, 1, none⟩ = some (.int .i64 n) := (blk_cell h.blk 1).trans rfl
  have hp := nil63
  clear h
  go_enter Try.func43, Try.ntmps43
  go_wp2
  go_ret
  exact ⟨by first | rfl | simp, rfl⟩

set_option maxHeartbeats 4000000 in
set_option maxRecDepth 100000 in
theorem Left_calls (g : Nat) (v : Value) (bs : List Int) (n : Nat) (w : World) (h : Rr w g v bs n) (hl : bs.length ≤ 17592186044416) (hn : n ≤ 1000000000000000) :
    Calls Try.prog 39 #[.pointer (some ⟨g, 0, none⟩)] w fun e w' => e = .returned (.int .i64 (8 * (bs.length : Int) - n)) ∧ Drawn0 w w' := by
  obtain ⟨A, c, rfl, hlc, hC⟩ := Kd.R_reads h.row
  have hc0 : w.cell? ⟨g, 0, none⟩ = some (.slice A bs.length c) := (blk_cell h.blk 0).trans rfl
  have hc1 : w.cell? ⟨g, 1, none⟩ = some (.int .i64 n) := (blk_cell h.blk 1).trans rfl
  have hp := nil63
  have hw1 : wrap64 (8 * (bs.length : Int)) = 8 * (bs.length : Int) := by unfold wrap64; omega
  have hw2 : wrap64 (8 * (bs.length : Int) - n) = 8 * (bs.length : Int) - n := by unfold wrap64; omega
  have HW1 := Aside0.mk hw1
  have HW2 := Aside0.mk hw2
  clear h hC hlc hl hn hw1 hw2
  generalize bs.length = L at *
  go_enter Try.func39, Try.ntmps39
  go_wp2
  refine start_ (n := 12) (S := fun w' => w'.cell? ⟨g, 0, none⟩ = some (.slice A L c) ∧ w'.cell? ⟨g, 1, none⟩ = some (.int .i64 n)) (ds := []) #[false, false, false, false, false, false, false, false, false, false, false, false] (by kernel_rfl) rfl rfl ⟨hc0, hc1⟩ (fun hHeld => ?_)
  refine pure_ (i := 0) (N := some 5) (v := ?_) (a' := ?_) #[true, false, false, false, false, false, false, false, false, false, false, false] rfl rfl (by kernel_rfl) (fun _ _ _ h => h) (Or.inl ⟨by rfl, ?_⟩) ?_ ?_
  rotate_left
  · intro w'
    go_simp
    with_reducible rfl
  rotate_left
  · simp only [Act.put, List.setIfInBounds_toArray, List.set_cons_zero, List.set_cons_succ, i64_w, i32_w]
    rfl
  refine pure_ (i := 1) (N := some 6) (v := ?_) (a' := ?_) #[true, true, false, false, false, false, false, false, false, false, false, false] rfl rfl (by kernel_rfl) (fun _ _ _ h => h) (Or.inl ⟨by rfl, ?_⟩) ?_ ?_
  rotate_left
  · intro w'
    go_simp
    with_reducible rfl
  rotate_left
  · simp only [Act.put, List.setIfInBounds_toArray, List.set_cons_zero, List.set_cons_succ, i64_w, i32_w]
    rfl
  refine pure_ (i := 2) (N := some 7) (v := ?_) (a' := ?_) #[true, true, true, false, false, false, false, false, false, false, false, false] rfl rfl (by kernel_rfl) (fun _ _ _ h => h) (Or.inl ⟨by rfl, ?_⟩) ?_ ?_
  rotate_left
  · intro w'
    go_simp
    with_reducible rfl
  rotate_left
  · simp only [Act.put, List.setIfInBounds_toArray, List.set_cons_zero, List.set_cons_succ, i64_w, i32_w]
    rfl
  refine take_ (i := 3) (N := some 8) (v := ?_) (a' := ?_) #[true, true, true, true, false, false, false, false, false, false, false, false] rfl rfl (by kernel_rfl) (fun _ _ _ h => h) (Or.inl ⟨by rfl, ?_⟩) hHeld ?_ ?_
  rotate_left
  · rintro w' ⟨s0, s1⟩
    go_simp
    with_reducible rfl
  rotate_left
  · simp only [Act.put, List.setIfInBounds_toArray, List.set_cons_zero, List.set_cons_succ, i64_w, i32_w]
    rfl
  refine pure_ (i := 4) (N := some 9) (v := ?_) (a' := ?_) #[true, true, true, true, true, false, false, false, false, false, false, false] rfl rfl (by kernel_rfl) (fun _ _ _ h => h) (Or.inl ⟨by rfl, ?_⟩) ?_ ?_
  rotate_left
  · intro w'
    go_simp
    with_reducible rfl
  rotate_left
  · simp only [Act.put, List.setIfInBounds_toArray, List.set_cons_zero, List.set_cons_succ, i64_w, i32_w]
    rfl
  refine pure_ (i := 5) (N := some 10) (v := ?_) (a' := ?_) #[true, true, true, true, true, true, false, false, false, false, false, false] rfl rfl (by kernel_rfl) (fun _ _ _ h => h) (Or.inl ⟨by rfl, ?_⟩) ?_ ?_
  rotate_left
  · intro w'
    go_simp
    with_reducible rfl
  rotate_left
  · simp only [Act.put, List.setIfInBounds_toArray, List.set_cons_zero, List.set_cons_succ, i64_w, i32_w]
    rfl
  refine pure_ (i := 6) (N := some 11) (v := ?_) (a' := ?_) #[true, true, true, true, true, true, true, false, false, false, false, false] rfl rfl (by kernel_rfl) (fun _ _ _ h => h) (Or.inl ⟨by rfl, ?_⟩) ?_ ?_
  rotate_left
  · intro w'
    go_simp
    with_reducible rfl
  rotate_left
  · simp only [Act.put, List.setIfInBounds_toArray, List.set_cons_zero, List.set_cons_succ, i64_w, i32_w]
    rfl
  refine pure_ (i := 7) (N := some 12) (v := ?_) (a' := ?_) #[true, true, true, true, true, true, true, true, false, false, false, false] rfl rfl (by kernel_rfl) (fun _ _ _ h => h) (Or.inl ⟨by rfl, ?_⟩) ?_ ?_
  rotate_left
  · intro w'
    go_simp
    with_reducible rfl
  rotate_left
  · simp only [Act.put, List.setIfInBounds_toArray, List.set_cons_zero, List.set_cons_succ, i64_w, i32_w]
    rfl
  refine pure_ (i := 8) (N := some 13) (v := ?_) (a' := ?_) #[true, true, true, true, true, true, true, true, true, false, false, false] rfl rfl (by kernel_rfl) (fun _ _ _ h => h) (Or.inl ⟨by rfl, ?_⟩) ?_ ?_
  rotate_left
  · intro w'
    go_simp
    with_reducible rfl
  rotate_left
  · simp only [Act.put, List.setIfInBounds_toArray, List.set_cons_zero, List.set_cons_succ, i64_w, i32_w]
    rfl
  refine take_ (i := 9) (N := some 14) (v := ?_) (a' := ?_) #[true, true, true, true, true, true, true, true, true, true, false, false] rfl rfl (by kernel_rfl) (fun _ _ _ h => h) (Or.inl ⟨by rfl, ?_⟩) hHeld ?_ ?_
  rotate_left
  · rintro w' ⟨s0, s1⟩
    go_simp
    with_reducible rfl
  rotate_left
  · simp only [Act.put, List.setIfInBounds_toArray, List.set_cons_zero, List.set_cons_succ, i64_w, i32_w]
    rfl
  refine pure_ (i := 10) (N := some 15) (v := ?_) (a' := ?_) #[true, true, true, true, true, true, true, true, true, true, true, false] rfl rfl (by kernel_rfl) (fun _ _ _ h => h) (Or.inl ⟨by rfl, ?_⟩) ?_ ?_
  rotate_left
  · intro w'
    go_simp
    with_reducible rfl
  rotate_left
  · simp only [Act.put, List.setIfInBounds_toArray, List.set_cons_zero, List.set_cons_succ, i64_w, i32_w]
    rfl
  refine pure_ (i := 11) (N := some 2) (v := ?_) (a' := ?_) #[true, true, true, true, true, true, true, true, true, true, true, true] rfl rfl (by kernel_rfl) (fun _ _ _ h => h) (Or.inl ⟨by rfl, ?_⟩) ?_ ?_
  rotate_left
  · intro w'
    go_simp
    with_reducible rfl
  rotate_left
  · simp only [Act.put, List.setIfInBounds_toArray, List.set_cons_zero, List.set_cons_succ, i64_w, i32_w]
    rfl
  refine done_ (by kernel_rfl) ?_
  go_wp2
  go_ret
  exact ⟨by rw [HW1.out, HW2.out]; rfl, by repeat (first | exact Drawn0.refl _ | apply Drawn0.step)⟩

def rbit (bs : List Int) (i : Nat) : Int := Go.bits .and .i64 (wrap64 (rd bs ((i : Int) / 8) / 2 ^ (7 - i % 8))) 1
theorem rbit_eq (bs : List Int) (hb : ∀ x ∈ bs, 0 ≤ x ∧ x < 256) (i : Nat) (h : i / 8 < bs.length) : rbit bs i = bitAt bs i := by
  have hrd : 0 ≤ rd bs ((i : Int) / 8) ∧ rd bs ((i : Int) / 8) < 256 := by
    rw [show ((i : Int) / 8) = ((i / 8 : Nat) : Int) by omega]
    simp only [rd, Int.toNat_natCast, List.getD_eq_getElem?_getD, List.getElem?_eq_getElem h, Option.getD_some]
    exact hb _ (List.getElem_mem h)
  exact and_num _ hrd.1 hrd.2 _
set_option maxHeartbeats 4000000 in
set_option maxRecDepth 100000 in
theorem rbit_calls (g : Nat) (v : Value) (bs : List Int) (n at_ : Nat) (w : World) (h : Rr w g v bs n) (hat : at_ / 8 < bs.length) (hbig : at_ ≤ 1099511627776) :
    Calls Try.prog 63 #[.pointer (some ⟨g, 0, none⟩), .int .i64 at_] w fun e w' => e = .returned (.int .i64 (rbit bs at_)) ∧ w' = w := by
  obtain ⟨gb, cap, rfl, _, _, cs, hcs⟩ := Kd.R_form h.row (by omega)
  obtain ⟨q, hq⟩ : ∃ q : Int, q = (at_ : Int) / 8 := ⟨_, rfl⟩
  obtain ⟨s, hs⟩ : ∃ s : Int, s = 7 - (at_ : Int) % 8 := ⟨_, rfl⟩
  have hq0 : 0 ≤ q := by omega
  have hq1 : q < (bs.length : Int) := by omega
  have hs0 : 0 ≤ s := by omega
  obtain ⟨hx, hf⟩ := Kd.R_celln 0 h.row q hq0 hq1
  have hc0 : w.cell? ⟨g, 0, none⟩ = some (.slice (some ⟨gb, 0, none⟩) bs.length cap) := (blk_cell h.blk 0).trans rfl
  have hw1 : wrap64 ((at_ : Int) / 8) = q := by unfold wrap64; omega
  have hw2 : wrap64 (7 - (at_ : Int) % 8) = s := by unfold wrap64; omega
  unfold rbit
  rw [← hq]
  have HQ := Aside0.mk hs
  clear h hat hbig hs hq
  go_enter Try.func63, Try.ntmps63
  go_wp2
  go_ret
  exact ⟨by first | rfl | simp, rfl⟩

end Go.Proofs.Ytbigfkfnlbfkhaa.HBits
