/- The Writer of layer 3: one bit, by hand: the state is a struct behind a pointer that holds a row. -/
import Derived.Test.YtbigfkfnlbfkhaaWMore
import Derived.Test.YtbigfkfnlbfkhaaProg
import Derived.Test.YtbigfkfnlbfkhaaHBase
import Derived.Lib.SliceRun
import Derived.Deep.RegionHeld3
import Derived.Laws.Pointers
import Derived.Test.YtbigfkfnlbfkhaaMBits
namespace Go.Proofs.Ytbigfkfnlbfkhaa.HBits
open Go.RowKit Go.Proofs.YtbigfkfnlbfkhaaW.PrintWords Go.Proofs.YtbigfkfnlbfkhaaW.PrintLast Go.Proofs.YtbigfkfnlbfkhaaW.PrintMore Go.Proofs.Ytbigfkfnlbfkhaa.HBase Go.Proofs.Ytbigfkfnlbfkhaa.MBits
attribute [local go_sem] u8_max u8_sgn
set_option linter.unusedSimpArgs false
set_option linter.unusedVariables false
theorem info5 : (Try.prog.info? 5).map (fun i => (i.zero, i.size, i.bytes)) = some (some (.int .u8 0), 1, 1) := by kernel_rfl
theorem ptr58 : Try.prog.underlying 58 = some (.pointer (Try.prog.pointee 58)) := by kernel_rfl
theorem ptr63 : Try.prog.underlying 63 = some (.pointer (Try.prog.pointee 63)) := by kernel_rfl
theorem nil58 (w : World) (p : Option Addr) : (Go.binOp .eql 58 (.pointer p) (.pointer none)).run Try.prog w = .ok (.bool p.isNone) w := run_eql_pointer_nil w 58 p ptr58
theorem nil63 (w : World) (p : Option Addr) : (Go.binOp .eql 63 (.pointer p) (.pointer none)).run Try.prog w = .ok (.bool p.isNone) w := run_eql_pointer_nil w 63 p ptr63

/-- The blocks of w that S doesn't tell are as they were; nothing outside memory has turned. -/
structure Keeps (w W : World) (S : Nat → Prop) : Prop where
  os : W.os = w.os
  tape : W.tape = w.tape
  output : W.output = w.output
  kept : Kept w W S
theorem Keeps.refl (w : World) (S : Nat → Prop) : Keeps w w S := ⟨rfl, rfl, rfl, Kept.refl w S⟩
theorem Keeps.then_ {w W W2 : World} {S S2 : Nat → Prop} (h : Keeps w W S) (k : Keeps W W2 S2) (hs : ∀ k, S2 k → S k ∨ w.heap.size ≤ k) : Keeps w W2 S :=
  ⟨k.os.trans h.os, k.tape.trans h.tape, k.output.trans h.output, h.kept.then_ k.kept hs⟩
theorem Keeps.of_grown {w W W2 : World} {S : Nat → Prop} {row : Option Nat} (hg : W.grownBy W2 row) (h : Keeps w W S) (hr : ∀ k, row = some k → S k ∨ w.heap.size ≤ k) : Keeps w W2 S :=
  ⟨hg.os.trans h.os, hg.tape.trans h.tape, hg.output.trans h.output, Kept.of_grown hg h.kept hr⟩
theorem Keeps.drew {w W : World} {S : Nat → Prop} (h : Keeps w W S) : Keeps w W.drew S := ⟨h.os, h.tape, h.output, h.kept⟩
theorem Keeps.drewN {w W : World} {S : Nat → Prop} (h : Keeps w W S) (m : Nat) : Keeps w (W.drewN m) S := ⟨h.os, h.tape, h.output, h.kept⟩
theorem Keeps.setCell {w W : World} {S : Nat → Prop} (h : Keeps w W S) {p : Addr} (hp : S p.block ∨ w.heap.size ≤ p.block) (u : Value) : Keeps w (W.setCell p u) S :=
  ⟨h.os, h.tape, h.output, h.kept.setCell hp u⟩
theorem Keeps.of_below {w W : World} (h : Below w.heap.size w W) (S : Nat → Prop) : Keeps w W S := ⟨h.os, h.tape, h.output, Kept.of_below h S⟩
theorem Keeps.mono {w W : World} {S S' : Nat → Prop} (h : Keeps w W S) (hs : ∀ k, S k → S' k) : Keeps w W S' := ⟨h.os, h.tape, h.output, h.kept.mono hs⟩
theorem Keeps.below {w W : World} {S : Nat → Prop} (h : Keeps w W S) {b : Nat} (hb : b ≤ w.heap.size) (hs : ∀ k, S k → b ≤ k) : Below b w W :=
  ⟨h.os, h.tape, h.output, h.kept.1, fun i hi => h.kept.2 i (Nat.lt_of_lt_of_le hi hb) (fun hk => by have := hs i hk; omega)⟩

/-- A Writer at block g: its row's value, its bytes, how many bits. -/
structure Wr (W : World) (g : Nat) (v : Value) (bs : List Int) (n : Nat) : Prop where
  blk : W.heap[g]? = some (.cells #[v, .int .i64 n] 84 (0, 0))
  row : Kd.R (Kd.int .u8) 5 W 0 (fun _ => True) v bs
/-- A Reader at block g. -/
structure Rr (W : World) (g : Nat) (v : Value) (bs : List Int) (n : Nat) : Prop where
  blk : W.heap[g]? = some (.cells #[v, .int .i64 n] 88 (0, 0))
  row : Kd.R (Kd.int .u8) 5 W 0 (fun _ => True) v bs

set_option maxHeartbeats 4000000 in
set_option maxRecDepth 100000 in
theorem len_calls (g : Nat) (v : Value) (bs : List Int) (n : Nat) (w : World) (h : Wr w g v bs n) :
    Calls Try.prog 37 #[.pointer (some ⟨g, 0, none⟩)] w fun e w' => e = .returned (.int .i64 n) ∧ w' = w := by
  have hc1 : w.cell? ⟨g, 1, none⟩ = some (.int .i64 n) := (blk_cell h.blk 1).trans rfl
  have hp := nil58
  clear h
  go_enter Try.func37, Try.ntmps37
  go_wp2
  go_ret
  exact ⟨by first | rfl | simp, rfl⟩

/-- Behind a call: the Writer's row lies where it lay, or in a new block; other blocks are as they were. -/
def Own (g : Nat) (v : Value) (k : Nat) : Prop := k = g ∨ some k = v.ownBlock
def Moved (w : World) (v v' : Value) : Prop := v'.ownBlock = v.ownBlock ∨ ∃ b, v'.ownBlock = some b ∧ w.heap.size ≤ b

set_option maxHeartbeats 4000000 in
set_option maxRecDepth 100000 in
theorem bit_calls (g : Nat) (v : Value) (bs : List Int) (n : Nat) (x : Int) (w : World) (h : Wr w g v bs n) (hn : n ≤ 1099511627776) (hl : bs.length ≤ 1099511627776) (hb : n / 8 < (room bs n).length) :
    Calls Try.prog 68 #[.pointer (some ⟨g, 0, none⟩), .int .i64 x] w fun e w' => e = .returned (.tuple #[]) ∧ ∃ v', Wr w' g v' (stepB bs n x) (n + 1) ∧ Keeps w w' (Own g v) ∧ Moved w v v' := by
  have hc0 : w.cell? ⟨g, 0, none⟩ = some v := (blk_cell h.blk 0).trans rfl
  have hc1 : w.cell? ⟨g, 1, none⟩ = some (.int .i64 n) := (blk_cell h.blk 1).trans rfl
  have HW := Aside0.mk h
  have HL := Aside0.mk hl
  clear hl h
  have HN := Aside0.mk hn
  have HBD := Aside0.mk hb
  clear hn hb
  go_enter Try.func68, Try.ntmps68
  go_upto_if 9 with (fail)
  go_cut [1] (fun v1_ wc => v1_ = .int .i64 x ∧ ∃ v', Aside0 (Wr wc g v' (room bs n) n) ∧ Aside0 (Keeps w wc (Own g v)) ∧ Aside0 (Moved w v v'))
  case first =>
    by_cases c : n % 8 = 0
    · have c1 : ((n : Int) % 8 == 0) = true := by simp; omega
      have C := Aside0.mk c
      clear c
      go_wp2_with (at_builtin; refine Kd.R_append (Kd.int .u8) (w0 := w) 0 rfl _ _ 34 5 (.int .u8 0) 1 rfl Try.underlying34 info5 rfl (by decide) (by omega) v bs 0 [.int .u8 0] (fun _ => True) (fun _ => False) rfl rfl ?aP (fun _ hk => hk.elim) ?aF ?aO ?aB ?aS ?aL ?_)
      case aP => exact rfl
      case aF => exact fun _ _ => trivial
      case aO => exact HW.out.row
      case aB => exact Below.refl _ _
      case aS => exact Nat.zero_le _
      case aL => have := HL.out; omega
      intro v1 w1 ho hb hg hat
      obtain ⟨A1, cp, rfl⟩ := Kd.R_slice ho
      have hne := Kd.R_ne HW.out.row HW.out.blk (by decide)
      have hb1 := blk_grown HW.out.blk hg hne
      have hc2 : w1.cell? ⟨g, 0, none⟩ = some v := (blk_cell hb1 0).trans rfl
      have hf2 : w1.frozen? ⟨g, 0, none⟩ = false := blk_frozen hb1 0
      have HO := Aside0.mk ho
      have HG := Aside0.mk hg
      have HA := Aside0.mk hat
      have HB1 := Aside0.mk hb1
      clear ho hb hg hat hb1 hne
      generalize (bs ++ [0]).length = L at HO HA
      go_wp2
      go_meet
      case rel =>
        have er : room bs n = bs ++ [0] := by unfold room; rw [if_pos C.out]
        exact ⟨rfl, _, ⟨⟨blk_put HB1.out 0 _ rfl, by rw [er]; exact Kd.R_set HO.out HB1.out (by decide) 0 _⟩⟩, ⟨Keeps.setCell (Keeps.of_grown HG.out (Keeps.refl w _) (fun k hk => .inl (.inr hk.symm))) (.inl (.inl rfl)) _⟩, ⟨HA.out⟩⟩
    · have c1 : ((n : Int) % 8 == 0) = false := by simp; omega
      have C := Aside0.mk c
      clear c
      go_wp2
      go_meet
      case rel =>
        have er : room bs n = bs := by unfold room; rw [if_neg C.out]
        exact ⟨rfl, _, ⟨⟨HW.out.blk, by rw [er]; exact HW.out.row⟩⟩, ⟨Keeps.refl w _⟩, ⟨.inl rfl⟩⟩
  case rest =>
    obtain ⟨rfl, v', HV, HK, HM⟩ := hcut
    clear hc0 hc1
    obtain ⟨gb, cap, rfl, _, _, cs, hcs⟩ := Kd.R_form HV.out.row (by have := HBD.out; omega)
    obtain ⟨q, hq⟩ : ∃ q : Int, q = (n : Int) / 8 := ⟨_, rfl⟩
    have hq0 : 0 ≤ q := by omega
    have hq1 : q < ((room bs n).length : Int) := by have := HBD.out; omega
    obtain ⟨hx, hf⟩ := Kd.R_celln 0 HV.out.row q hq0 hq1
    have hc0 : wc.cell? ⟨g, 0, none⟩ = some (.slice (some ⟨gb, 0, none⟩) (room bs n).length cap) := (blk_cell HV.out.blk 0).trans rfl
    have hc1 : wc.cell? ⟨g, 1, none⟩ = some (.int .i64 n) := (blk_cell HV.out.blk 1).trans rfl
    have HS : Aside0 (Kd.R (Kd.int .u8) 5 wc 0 (fun _ => True) (.slice (some ⟨gb, 0, none⟩) (room bs n).length cap) (room bs n)) := ⟨HV.out.row⟩
    have HBK : Aside0 (wc.heap[g]? = some (.cells #[.slice (some ⟨gb, 0, none⟩) (room bs n).length cap, .int .i64 n] 84 (0, 0))) := ⟨HV.out.blk⟩
    clear HV
    obtain ⟨B, hB⟩ : ∃ B, B = rdOf 0 (room bs n) q := ⟨_, rfl⟩
    rw [← hB] at hx
    have HBB := Aside0.mk hB
    clear hB
    generalize (room bs n).length = L at *
    have hw1 : wrap64 ((n : Int) / 8) = q := by have := HN.out; unfold wrap64; omega
    obtain ⟨s, hs⟩ : ∃ s : Int, s = 7 - (n : Int) % 8 := ⟨_, rfl⟩
    have hs0 : 0 ≤ s := by omega
    have hw2 : wrap64 (7 - (n : Int).tmod 8) = s := by rw [Int.tmod_eq_emod_of_nonneg (by omega)]; unfold wrap64; omega
    have HSS := Aside0.mk hs
    have HQ := Aside0.mk hq
    clear hq hs
    go_wp2
    refine start_ (n := 23) (S := fun w' => w'.cell? ⟨g, 0, none⟩ = some (.slice (some ⟨gb, 0, none⟩) L cap) ∧ w'.cell? ⟨g, 1, none⟩ = some (.int .i64 n) ∧ w'.cell? ⟨gb, q.toNat, none⟩ = some (.int .u8 B)) (ds := [22]) #[false, false, false, false, false, false, false, false, false, false, false, false, false, false, false, false, false, false, false, false, false, false, false] (by kernel_rfl) rfl rfl ⟨hc0, hc1, hx⟩ (fun hHeld => ?_)
    refine pure_ (i := 0) (N := some 19) (v := ?_) (a' := ?_) #[true, false, false, false, false, false, false, false, false, false, false, false, false, false, false, false, false, false, false, false, false, false, false] rfl rfl (by kernel_rfl) (fun _ _ _ h => h) (Or.inl ⟨by rfl, ?_⟩) ?_ ?_
    rotate_left
    · intro w'
      go_simp
      with_reducible rfl
    rotate_left
    · simp only [Act.put, List.setIfInBounds_toArray, List.set_cons_zero, List.set_cons_succ, i64_w, i32_w]
      rfl
    refine pure_ (i := 1) (N := some 20) (v := ?_) (a' := ?_) #[true, true, false, false, false, false, false, false, false, false, false, false, false, false, false, false, false, false, false, false, false, false, false] rfl rfl (by kernel_rfl) (fun _ _ _ h => h) (Or.inl ⟨by rfl, ?_⟩) ?_ ?_
    rotate_left
    · intro w'
      go_simp
      with_reducible rfl
    rotate_left
    · simp only [Act.put, List.setIfInBounds_toArray, List.set_cons_zero, List.set_cons_succ, i64_w, i32_w]
      rfl
    refine pure_ (i := 2) (N := some 21) (v := ?_) (a' := ?_) #[true, true, true, false, false, false, false, false, false, false, false, false, false, false, false, false, false, false, false, false, false, false, false] rfl rfl (by kernel_rfl) (fun _ _ _ h => h) (Or.inl ⟨by rfl, ?_⟩) ?_ ?_
    rotate_left
    · intro w'
      go_simp
      with_reducible rfl
    rotate_left
    · simp only [Act.put, List.setIfInBounds_toArray, List.set_cons_zero, List.set_cons_succ, i64_w, i32_w]
      rfl
    refine take_ (i := 3) (N := some 22) (v := ?_) (a' := ?_) #[true, true, true, true, false, false, false, false, false, false, false, false, false, false, false, false, false, false, false, false, false, false, false] rfl rfl (by kernel_rfl) (fun _ _ _ h => h) (Or.inl ⟨by rfl, ?_⟩) hHeld ?_ ?_
    rotate_left
    · rintro w' ⟨s0, s1, s2⟩
      go_simp
      with_reducible rfl
    rotate_left
    · simp only [Act.put, List.setIfInBounds_toArray, List.set_cons_zero, List.set_cons_succ, i64_w, i32_w]
      rfl
    refine pure_ (i := 4) (N := some 23) (v := ?_) (a' := ?_) #[true, true, true, true, true, false, false, false, false, false, false, false, false, false, false, false, false, false, false, false, false, false, false] rfl rfl (by kernel_rfl) (fun _ _ _ h => h) (Or.inl ⟨by rfl, ?_⟩) ?_ ?_
    rotate_left
    · intro w'
      go_simp
      with_reducible rfl
    rotate_left
    · simp only [Act.put, List.setIfInBounds_toArray, List.set_cons_zero, List.set_cons_succ, i64_w, i32_w]
      rfl
    refine pure_ (i := 5) (N := some 24) (v := ?_) (a' := ?_) #[true, true, true, true, true, true, false, false, false, false, false, false, false, false, false, false, false, false, false, false, false, false, false] rfl rfl (by kernel_rfl) (fun _ _ _ h => h) (Or.inl ⟨by rfl, ?_⟩) ?_ ?_
    rotate_left
    · intro w'
      go_simp
      with_reducible rfl
    rotate_left
    · simp only [Act.put, List.setIfInBounds_toArray, List.set_cons_zero, List.set_cons_succ, i64_w, i32_w]
      rfl
    refine pure_ (i := 6) (N := some 25) (v := ?_) (a' := ?_) #[true, true, true, true, true, true, true, false, false, false, false, false, false, false, false, false, false, false, false, false, false, false, false] rfl rfl (by kernel_rfl) (fun _ _ _ h => h) (Or.inl ⟨by rfl, ?_⟩) ?_ ?_
    rotate_left
    · intro w'
      go_simp
      with_reducible rfl
    rotate_left
    · simp only [Act.put, List.setIfInBounds_toArray, List.set_cons_zero, List.set_cons_succ, i64_w, i32_w]
      rfl
    refine take_ (i := 7) (N := some 26) (v := ?_) (a' := ?_) #[true, true, true, true, true, true, true, true, false, false, false, false, false, false, false, false, false, false, false, false, false, false, false] rfl rfl (by kernel_rfl) (fun _ _ _ h => h) (Or.inl ⟨by rfl, ?_⟩) hHeld ?_ ?_
    rotate_left
    · rintro w' ⟨s0, s1, s2⟩
      go_simp
      with_reducible rfl
    rotate_left
    · simp only [Act.put, List.setIfInBounds_toArray, List.set_cons_zero, List.set_cons_succ, i64_w, i32_w]
      rfl
    refine pure_ (i := 8) (N := some 27) (v := ?_) (a' := ?_) #[true, true, true, true, true, true, true, true, true, false, false, false, false, false, false, false, false, false, false, false, false, false, false] rfl rfl (by kernel_rfl) (fun _ _ _ h => h) (Or.inl ⟨by rfl, ?_⟩) ?_ ?_
    rotate_left
    · intro w'
      go_simp
      with_reducible rfl
    rotate_left
    · simp only [Act.put, List.setIfInBounds_toArray, List.set_cons_zero, List.set_cons_succ, i64_w, i32_w]
      rfl
    refine pure_ (i := 9) (N := some 28) (v := ?_) (a' := ?_) #[true, true, true, true, true, true, true, true, true, true, false, false, false, false, false, false, false, false, false, false, false, false, false] rfl rfl (by kernel_rfl) (fun _ _ _ h => h) (Or.inl ⟨by rfl, ?_⟩) ?_ ?_
    rotate_left
    · intro w'
      go_simp
      with_reducible rfl
    rotate_left
    · simp only [Act.put, List.setIfInBounds_toArray, List.set_cons_zero, List.set_cons_succ, i64_w, i32_w]
      rfl
    refine take_ (i := 10) (N := some 29) (v := ?_) (a' := ?_) #[true, true, true, true, true, true, true, true, true, true, true, false, false, false, false, false, false, false, false, false, false, false, false] rfl rfl (by kernel_rfl) (fun _ _ _ h => h) (Or.inl ⟨by rfl, ?_⟩) hHeld ?_ ?_
    rotate_left
    · rintro w' ⟨s0, s1, s2⟩
      go_simp
      with_reducible rfl
    rotate_left
    · simp only [Act.put, List.setIfInBounds_toArray, List.set_cons_zero, List.set_cons_succ, i64_w, i32_w]
      rfl
    refine pure_ (i := 11) (N := some 30) (v := ?_) (a' := ?_) #[true, true, true, true, true, true, true, true, true, true, true, true, false, false, false, false, false, false, false, false, false, false, false] rfl rfl (by kernel_rfl) (fun _ _ _ h => h) (Or.inl ⟨by rfl, ?_⟩) ?_ ?_
    rotate_left
    · intro w'
      go_simp
      with_reducible rfl
    rotate_left
    · simp only [Act.put, List.setIfInBounds_toArray, List.set_cons_zero, List.set_cons_succ, i64_w, i32_w]
      rfl
    refine pure_ (i := 12) (N := some 31) (v := ?_) (a' := ?_) #[true, true, true, true, true, true, true, true, true, true, true, true, true, false, false, false, false, false, false, false, false, false, false] rfl rfl (by kernel_rfl) (fun _ _ _ h => h) (Or.inl ⟨by rfl, ?_⟩) ?_ ?_
    rotate_left
    · intro w'
      go_simp
      with_reducible rfl
    rotate_left
    · simp only [Act.put, List.setIfInBounds_toArray, List.set_cons_zero, List.set_cons_succ, i64_w, i32_w]
      rfl
    refine pure_ (i := 13) (N := some 32) (v := ?_) (a' := ?_) #[true, true, true, true, true, true, true, true, true, true, true, true, true, true, false, false, false, false, false, false, false, false, false] rfl rfl (by kernel_rfl) (fun _ _ _ h => h) (Or.inl ⟨by rfl, ?_⟩) ?_ ?_
    rotate_left
    · intro w'
      go_simp
      with_reducible rfl
    rotate_left
    · simp only [Act.put, List.setIfInBounds_toArray, List.set_cons_zero, List.set_cons_succ, i64_w, i32_w]
      rfl
    refine pure_ (i := 14) (N := some 33) (v := ?_) (a' := ?_) #[true, true, true, true, true, true, true, true, true, true, true, true, true, true, true, false, false, false, false, false, false, false, false] rfl rfl (by kernel_rfl) (fun _ _ _ h => h) (Or.inl ⟨by rfl, ?_⟩) ?_ ?_
    rotate_left
    · intro w'
      go_simp
      with_reducible rfl
    rotate_left
    · simp only [Act.put, List.setIfInBounds_toArray, List.set_cons_zero, List.set_cons_succ, i64_w, i32_w]
      rfl
    refine take_ (i := 15) (N := some 34) (v := ?_) (a' := ?_) #[true, true, true, true, true, true, true, true, true, true, true, true, true, true, true, true, false, false, false, false, false, false, false] rfl rfl (by kernel_rfl) (fun _ _ _ h => h) (Or.inl ⟨by rfl, ?_⟩) hHeld ?_ ?_
    rotate_left
    · rintro w' ⟨s0, s1, s2⟩
      go_simp
      with_reducible rfl
    rotate_left
    · simp only [Act.put, List.setIfInBounds_toArray, List.set_cons_zero, List.set_cons_succ, i64_w, i32_w]
      rfl
    refine pure_ (i := 16) (N := some 35) (v := ?_) (a' := ?_) #[true, true, true, true, true, true, true, true, true, true, true, true, true, true, true, true, true, false, false, false, false, false, false] rfl rfl (by kernel_rfl) (fun _ _ _ h => h) (Or.inl ⟨by rfl, ?_⟩) ?_ ?_
    rotate_left
    · intro w'
      go_simp
      with_reducible rfl
    rotate_left
    · simp only [Act.put, List.setIfInBounds_toArray, List.set_cons_zero, List.set_cons_succ, i64_w, i32_w]
      rfl
    refine pure_ (i := 17) (N := some 36) (v := ?_) (a' := ?_) #[true, true, true, true, true, true, true, true, true, true, true, true, true, true, true, true, true, true, false, false, false, false, false] rfl rfl (by kernel_rfl) (fun _ _ _ h => h) (Or.inl ⟨by rfl, ?_⟩) ?_ ?_
    rotate_left
    · intro w'
      go_simp
      with_reducible rfl
    rotate_left
    · simp only [Act.put, List.setIfInBounds_toArray, List.set_cons_zero, List.set_cons_succ, i64_w, i32_w]
      rfl
    refine pure_ (i := 18) (N := some 37) (v := ?_) (a' := ?_) #[true, true, true, true, true, true, true, true, true, true, true, true, true, true, true, true, true, true, true, false, false, false, false] rfl rfl (by kernel_rfl) (fun _ _ _ h => h) (Or.inl ⟨by rfl, ?_⟩) ?_ ?_
    rotate_left
    · intro w'
      go_simp
      with_reducible rfl
    rotate_left
    · simp only [Act.put, List.setIfInBounds_toArray, List.set_cons_zero, List.set_cons_succ, i64_w, i32_w]
      rfl
    refine pure_ (i := 19) (N := some 38) (v := ?_) (a' := ?_) #[true, true, true, true, true, true, true, true, true, true, true, true, true, true, true, true, true, true, true, true, false, false, false] rfl rfl (by kernel_rfl) (fun _ _ _ h => h) (Or.inl ⟨by rfl, ?_⟩) ?_ ?_
    rotate_left
    · intro w'
      go_simp
      with_reducible rfl
    rotate_left
    · simp only [Act.put, List.setIfInBounds_toArray, List.set_cons_zero, List.set_cons_succ, i64_w, i32_w]
      rfl
    refine pure_ (i := 20) (N := some 39) (v := ?_) (a' := ?_) #[true, true, true, true, true, true, true, true, true, true, true, true, true, true, true, true, true, true, true, true, true, false, false] rfl rfl (by kernel_rfl) (fun _ _ _ h => h) (Or.inl ⟨by rfl, ?_⟩) ?_ ?_
    rotate_left
    · intro w'
      go_simp
      with_reducible rfl
    rotate_left
    · simp only [Act.put, List.setIfInBounds_toArray, List.set_cons_zero, List.set_cons_succ, i64_w, i32_w]
      rfl
    refine pure_ (i := 21) (N := some 40) (v := ?_) (a' := ?_) #[true, true, true, true, true, true, true, true, true, true, true, true, true, true, true, true, true, true, true, true, true, true, false] rfl rfl (by kernel_rfl) (fun _ _ _ h => h) (Or.inl ⟨by rfl, ?_⟩) ?_ ?_
    rotate_left
    · intro w'
      go_simp
      with_reducible rfl
    rotate_left
    · simp only [Act.put, List.setIfInBounds_toArray, List.set_cons_zero, List.set_cons_succ, i64_w, i32_w]
      rfl
    have hfd : wc.drew.frozen? ⟨gb, q.toNat, none⟩ = false := hf
    refine last_ (i := 22) (N := none) #[true, true, true, true, true, true, true, true, true, true, true, true, true, true, true, true, true, true, true, true, true, true, true] rfl rfl (by kernel_rfl) (by decide) (fun K hK => ?_)
    refine skip_ (w1 := ?_) (by rfl) rfl ?_ ?_
    rotate_left
    · go_simp
      rfl
    refine hK.out _ _ ?_
    clear hK K
    refine done_ (by kernel_rfl) ?_
    obtain ⟨Y, hY⟩ : ∃ Y, Y = Go.bits .or .u8 B (IntKind.u8.wrap (wrap64 (x * 2 ^ min s.toNat 64))) := ⟨_, rfl⟩
    rw [← hY]
    have hne : g ≠ gb := blk_ne HBK.out hcs (by decide)
    obtain ⟨r3, g3⟩ := Kd.R_putg HS.out q Y
    have b3 := blk_far (p := ⟨gb, q.toNat, none⟩) HBK.out hne (.int .u8 Y)
    have k3 := Keeps.setCell (p := ⟨gb, q.toNat, none⟩) HK.out (by
      rcases HM.out with h | ⟨b, h, hb⟩
      · exact .inl (.inr (by rw [← h]; rfl))
      · right; simp only [Value.ownBlock, Option.some.injEq] at h; show w.heap.size ≤ gb; omega) (.int .u8 Y)
    have R3 : Aside0 (Kd.R (Kd.int .u8) 5 (wc.setCell ⟨gb, q.toNat, none⟩ (.int .u8 Y)).drew 0 (fun _ => True) (.slice (some ⟨gb, 0, none⟩) L cap) ((room bs n).set q.toNat Y)) := ⟨Kd.R_drew r3⟩
    have B3 : Aside0 ((wc.setCell ⟨gb, q.toNat, none⟩ (.int .u8 Y)).drew.heap[g]? = some (.cells #[.slice (some ⟨gb, 0, none⟩) L cap, .int .i64 n] 84 (0, 0))) := ⟨b3⟩
    have K3 : Aside0 (Keeps w (wc.setCell ⟨gb, q.toNat, none⟩ (.int .u8 Y)).drew (Own g v)) := ⟨Keeps.drew k3⟩
    clear r3 b3 k3 g3 HK HS HBK hc0 hc1 hx hf hfd hcs hne hHeld
    generalize (wc.setCell ⟨gb, q.toNat, none⟩ (.int .u8 Y)).drew = W3 at R3 B3 K3 ⊢
    have hc1 : W3.cell? ⟨g, 1, none⟩ = some (.int .i64 n) := (blk_cell B3.out 1).trans rfl
    have hf1 : W3.frozen? ⟨g, 1, none⟩ = false := blk_frozen B3.out 1
    have e1 : wrap64 ((n : Int) + 1) = ((n + 1 : Nat) : Int) := by have := HN.out; unfold wrap64; omega
    have E1 := Aside0.mk e1
    have YY := Aside0.mk hY
    clear hY e1 hw1 hw2
    go_wp2
    rw [E1.out]
    go_end0
    refine ⟨by first | rfl | simp, _, ⟨blk_put B3.out 1 _ rfl, ?_⟩, Keeps.setCell K3.out (.inl (.inl rfl)) _, HM.out⟩
    have eq1 : q.toNat = n / 8 := by have := HQ.out; omega
    have es1 : s.toNat = 7 - n % 8 := by have := HSS.out; omega
    unfold stepB
    rw [← eq1, ← es1, ← HQ.out]
    have := Kd.R_set R3.out B3.out (by decide) 1 (.int .i64 ((n + 1 : Nat) : Int))
    rw [YY.out, HBB.out] at this
    exact this

/-- A Writer of the bits l. -/
structure Wl (W : World) (g : Nat) (v : Value) (l : List Int) : Prop where
  wr : Wr W g v (pack l) l.length
  bits : Bits l
/-- A Writer has moved from w to w'. -/
structure Did (w w' : World) (g : Nat) (v v' : Value) : Prop where
  kept : Keeps w w' (Own g v)
  moved : Moved w v v'
theorem Did.refl (w : World) (g : Nat) (v : Value) : Did w w g v v := ⟨Keeps.refl w _, .inl rfl⟩
theorem Did.trans {w w1 w2 : World} {g : Nat} {v v1 v2 : Value} (h : Did w w1 g v v1) (k : Did w1 w2 g v1 v2) : Did w w2 g v v2 := by
  refine ⟨h.kept.then_ k.kept (fun i hi => ?_), ?_⟩
  · rcases hi with rfl | hi
    · exact .inl (.inl rfl)
    · rcases h.moved with hm | ⟨b, hb, hle⟩
      · exact .inl (.inr (by rw [← hm]; exact hi))
      · right
        rw [hb] at hi
        injection hi with hi
        omega
  · rcases k.moved with hm | ⟨b, hb, hle⟩
    · rcases h.moved with hm' | ⟨b', hb', hle'⟩
      · exact .inl (hm.trans hm')
      · exact .inr ⟨b', hm.trans hb', hle'⟩
    · exact .inr ⟨b, hb, Nat.le_trans h.kept.kept.1 hle⟩

theorem wbit (g : Nat) (v : Value) (l : List Int) (x : Int) (w : World) (h : Wl w g v l) (hx : IsBit x) (hn : l.length ≤ 1099511627776) :
    Calls Try.prog 68 #[.pointer (some ⟨g, 0, none⟩), .int .i64 x] w fun e w' => e = .returned (.tuple #[]) ∧ ∃ v', Wl w' g v' (l ++ [x]) ∧ Did w w' g v v' := by
  refine (bit_calls g v (pack l) l.length x w h.wr hn (by rw [pack_len]; omega) (by rw [room_len]; omega)).mono ?_
  rintro e w' ⟨he, v', hw, hk, hm⟩
  refine ⟨he, v', ⟨?_, bits_append h.bits (bits_one hx)⟩, ⟨hk, hm⟩⟩
  rw [step_pack l h.bits hx] at hw
  rw [List.length_append, List.length_singleton]
  exact hw
end Go.Proofs.Ytbigfkfnlbfkhaa.HBits
