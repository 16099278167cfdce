/- Contracts by hand for layer 7: predict.wide, Check's closure, slices.IndexFunc, slices.ContainsFunc at both, slices.Clone. -/
import Derived.Test.YtbigfkfnlbfkhaaWMore
import Derived.Test.YtbigfkfnlbfkhaaProg
import Derived.Lib.SliceRun
namespace Go.Proofs.Ytbigfkfnlbfkhaa.HPred
open Go.RowKit Go.Proofs.YtbigfkfnlbfkhaaW.PrintWords Go.Proofs.YtbigfkfnlbfkhaaW.PrintLast Go.Proofs.YtbigfkfnlbfkhaaW.PrintMore

theorem info3 : (Try.prog.info? 3).map (fun i => (i.zero, i.size, i.bytes)) = some (some (.int .i64 0), 1, 8) := by kernel_rfl

def wideB (n : Int) : Bool := decide (n ≤ -2147483648) || decide (2147483648 ≤ n)
def oddB (n : Int) : Bool := decide (n < -2048) || decide (2047 < n)

theorem wide_calls (n : Int) (w : World) : Calls Try.prog 48 #[.int .i64 n] w fun e w' => e = .returned (.bool (wideB n)) ∧ w' = w := by
  by_cases c : n ≤ -2147483648
  · have hf : wideB n = true := by simp [wideB, c]
    have HF := Aside0.mk hf
    clear hf
    go_enter Try.func48, Try.ntmps48
    go_wp2
    go_ret
    exact ⟨by rw [HF.out]; first | rfl | simp, rfl⟩
  · have hf : wideB n = decide (2147483648 ≤ n) := by simp [wideB, c]
    have HF := Aside0.mk hf
    clear hf
    go_enter Try.func48, Try.ntmps48
    go_wp2
    go_ret
    exact ⟨by rw [HF.out]; first | rfl | simp, rfl⟩

theorem odd_calls (n : Int) (w : World) : Calls Try.prog 55 #[.int .i64 n] w fun e w' => e = .returned (.bool (oddB n)) ∧ w' = w := by
  by_cases c : n < -2048
  · have hf : oddB n = true := by simp [oddB, c]
    have HF := Aside0.mk hf
    clear hf
    go_enter Try.func55, Try.ntmps55
    go_wp2
    go_ret
    exact ⟨by rw [HF.out]; first | rfl | simp, rfl⟩
  · have hf : oddB n = decide (2047 < n) := by simp [oddB, c]
    have HF := Aside0.mk hf
    clear hf
    go_enter Try.func55, Try.ntmps55
    go_wp2
    go_ret
    exact ⟨by rw [HF.out]; first | rfl | simp, rfl⟩

def idxB (p : Int → Bool) (l : List Int) : Int := if l.any p then (l.findIdx p : Int) else -1
theorem idxB_hit {p : Int → Bool} {l : List Int} {k : Nat} (hk : k < l.length) (h : ∀ j, j < k → p (rd l j) = false) (hp : p (rd l k) = true) : idxB p l = k := by
  have e : rd l (k : Int) = l[k] := by simp [rd, List.getD_eq_getElem?_getD, List.getElem?_eq_getElem hk]
  have h1 : l.findIdx p = k := by
    rw [List.findIdx_eq hk]
    refine ⟨by rw [← e]; exact hp, fun j hj => ?_⟩
    have := h j hj
    rwa [show rd l (j : Int) = l[j] by simp [rd, List.getD_eq_getElem?_getD, List.getElem?_eq_getElem (show j < l.length by omega)]] at this
  unfold idxB
  rw [if_pos (List.any_eq_true.2 ⟨l[k], List.getElem_mem hk, by rw [← e]; exact hp⟩), h1]
theorem idxB_miss {p : Int → Bool} {l : List Int} (h : ∀ j, j < l.length → p (rd l j) = false) : idxB p l = -1 := by
  unfold idxB
  rw [if_neg]
  intro ha
  obtain ⟨x, hx, hpx⟩ := List.any_eq_true.1 ha
  obtain ⟨j, hj, rfl⟩ := List.getElem_of_mem hx
  have := h j hj
  rw [show rd l (j : Int) = l[j] by simp [rd, List.getD_eq_getElem?_getD, List.getElem?_eq_getElem hj]] at this
  rw [this] at hpx
  cases hpx
theorem idxB_any (p : Int → Bool) (l : List Int) : decide (0 ≤ idxB p l) = l.any p := by
  unfold idxB
  by_cases h : l.any p = true
  · rw [if_pos h, h]; exact decide_eq_true (by omega)
  · have h' : l.any p = false := by simpa using h
    rw [if_neg h, h']; rfl

set_option maxHeartbeats 4000000 in
set_option maxRecDepth 100000 in
theorem index_wide (A0 : Option Addr) (c0 : Nat) (l : List Int) (w : World) (hr : Kd.C (Kd.int .i64) w A0 l.length l) :
    Calls Try.prog 65 #[.slice A0 l.length c0, .func (.func 48) #[] #[]] w fun e w' => e = .returned (.int .i64 (idxB wideB l)) ∧ w' = w := by
  have HR := Aside0.mk hr
  have hlen : l.length ≤ 9223372036854775807 := hr.2.1
  clear hr
  go_enter Try.func65, Try.ntmps65
  go_wp2
  go_loop [8] (fun v => ∃ k : Nat, k ≤ l.length ∧ v = .int .i64 k ∧ Aside0 (∀ j : Nat, j < k → wideB (rd l j) = false)) (fun v => l.length - (intOf v).toNat)
  case atStart => exact ⟨0, Nat.zero_le _, rfl, ⟨fun j hj => absurd hj (by omega)⟩⟩
  case round =>
    obtain ⟨k, hk, rfl, HN⟩ := hrel
    by_cases hlt : k < l.length
    · obtain ⟨ad, rfl, hx⟩ := Kd.at_int HR.out (k : Int) (by omega) (by omega)
      have hq : (0 : Int) ≤ (k : Int) := by omega
      rw [Int.toNat_natCast] at hx
      cases hb : wideB (rd l k) with
      | true =>
        have hres : idxB wideB l = (k : Int) := idxB_hit hlt HN.out hb
        have HB := Aside0.mk hb
        have HE := Aside0.mk hres
        clear hb hres
        go_wp2_with (go_at_call 48; refine (wide_calls _ _).mono ?_; rintro e w1 ⟨rfl, rfl⟩; have hb := HB.out)
        go_ret
        exact ⟨by rw [HE.out]; first | rfl | simp, rfl⟩
      | false =>
        have HB := Aside0.mk hb
        clear hb
        go_wp2_with (go_at_call 48; refine (wide_calls _ _).mono ?_; rintro e w1 ⟨rfl, rfl⟩; have hb := HB.out)
        go_round
        case rel => exact ⟨k + 1, by omega, by go_num, ⟨fun j hj => by
          rcases Nat.lt_or_ge j k with h | h
          · exact HN.out j h
          · rw [show j = k by omega]; exact HB.out⟩⟩
        case measure => simp [intOf]; omega
    · have hres : idxB wideB l = -1 := idxB_miss (fun j hj => HN.out j (by omega))
      have HE := Aside0.mk hres
      clear hres
      go_wp2
      go_ret
      exact ⟨by rw [HE.out]; first | rfl | simp, rfl⟩
set_option maxHeartbeats 4000000 in
set_option maxRecDepth 100000 in
theorem index_odd (A0 : Option Addr) (c0 : Nat) (l : List Int) (w : World) (hr : Kd.C (Kd.int .i64) w A0 l.length l) :
    Calls Try.prog 65 #[.slice A0 l.length c0, .func (.func 55) #[] #[]] w fun e w' => e = .returned (.int .i64 (idxB oddB l)) ∧ w' = w := by
  have HR := Aside0.mk hr
  have hlen : l.length ≤ 9223372036854775807 := hr.2.1
  clear hr
  go_enter Try.func65, Try.ntmps65
  go_wp2
  go_loop [8] (fun v => ∃ k : Nat, k ≤ l.length ∧ v = .int .i64 k ∧ Aside0 (∀ j : Nat, j < k → oddB (rd l j) = false)) (fun v => l.length - (intOf v).toNat)
  case atStart => exact ⟨0, Nat.zero_le _, rfl, ⟨fun j hj => absurd hj (by omega)⟩⟩
  case round =>
    obtain ⟨k, hk, rfl, HN⟩ := hrel
    by_cases hlt : k < l.length
    · obtain ⟨ad, rfl, hx⟩ := Kd.at_int HR.out (k : Int) (by omega) (by omega)
      have hq : (0 : Int) ≤ (k : Int) := by omega
      rw [Int.toNat_natCast] at hx
      cases hb : oddB (rd l k) with
      | true =>
        have hres : idxB oddB l = (k : Int) := idxB_hit hlt HN.out hb
        have HB := Aside0.mk hb
        have HE := Aside0.mk hres
        clear hb hres
        go_wp2_with (go_at_call 55; refine (odd_calls _ _).mono ?_; rintro e w1 ⟨rfl, rfl⟩; have hb := HB.out)
        go_ret
        exact ⟨by rw [HE.out]; first | rfl | simp, rfl⟩
      | false =>
        have HB := Aside0.mk hb
        clear hb
        go_wp2_with (go_at_call 55; refine (odd_calls _ _).mono ?_; rintro e w1 ⟨rfl, rfl⟩; have hb := HB.out)
        go_round
        case rel => exact ⟨k + 1, by omega, by go_num, ⟨fun j hj => by
          rcases Nat.lt_or_ge j k with h | h
          · exact HN.out j h
          · rw [show j = k by omega]; exact HB.out⟩⟩
        case measure => simp [intOf]; omega
    · have hres : idxB oddB l = -1 := idxB_miss (fun j hj => HN.out j (by omega))
      have HE := Aside0.mk hres
      clear hres
      go_wp2
      go_ret
      exact ⟨by rw [HE.out]; first | rfl | simp, rfl⟩

def contains_wide.f (l0 : List Int) (_ : Unit) : Option Bool := some (l0.any wideB)
set_option maxHeartbeats 4000000 in
set_option maxRecDepth 100000 in
theorem contains_wide.calls (A0 : Option Addr) (c0 : Nat) (l0 : List Int) (u : Unit) (r : Bool) (w : World) (hr0 : Kd.C (Kd.int .i64) w A0 l0.length l0) (_hc0 : l0.length ≤ c0) (h : contains_wide.f l0 u = some r) :
    Calls Try.prog 47 #[.slice A0 l0.length c0, .func (.func 48) #[] #[]] w fun e w' => e = .returned (.bool r) ∧ Drawn0 w w' := by
  obtain rfl := Option.some.inj h
  clear h
  have HR := Aside0.mk hr0
  have ha := idxB_any wideB l0
  obtain ⟨b, hb⟩ : ∃ b, b = l0.any wideB := ⟨_, rfl⟩
  rw [← hb] at ha ⊢
  obtain ⟨x, hx⟩ : ∃ x, x = idxB wideB l0 := ⟨_, rfl⟩
  rw [← hx] at ha
  have HX := Aside0.mk hx
  have HA := Aside0.mk ha
  clear ha hx hr0 hb
  go_enter Try.func47, Try.ntmps47
  go_wp2_with (go_at_call 65; refine (index_wide _ _ _ _ HR.out).mono ?_; rintro e w1 ⟨rfl, rfl⟩; rw [← HX.out])
  go_ret
  exact ⟨by rw [← HA.out]; first | rfl | simp, Drawn0.refl _⟩

def contains_odd.f (l0 : List Int) (_ : Unit) : Option Bool := some (l0.any oddB)
set_option maxHeartbeats 4000000 in
set_option maxRecDepth 100000 in
theorem contains_odd.calls (A0 : Option Addr) (c0 : Nat) (l0 : List Int) (u : Unit) (r : Bool) (w : World) (hr0 : Kd.C (Kd.int .i64) w A0 l0.length l0) (_hc0 : l0.length ≤ c0) (h : contains_odd.f l0 u = some r) :
    Calls Try.prog 47 #[.slice A0 l0.length c0, .func (.func 55) #[] #[]] w fun e w' => e = .returned (.bool r) ∧ Drawn0 w w' := by
  obtain rfl := Option.some.inj h
  clear h
  have HR := Aside0.mk hr0
  have ha := idxB_any oddB l0
  obtain ⟨b, hb⟩ : ∃ b, b = l0.any oddB := ⟨_, rfl⟩
  rw [← hb] at ha ⊢
  obtain ⟨x, hx⟩ : ∃ x, x = idxB oddB l0 := ⟨_, rfl⟩
  rw [← hx] at ha
  have HX := Aside0.mk hx
  have HA := Aside0.mk ha
  clear ha hx hr0 hb
  go_enter Try.func47, Try.ntmps47
  go_wp2_with (go_at_call 65; refine (index_odd _ _ _ _ HR.out).mono ?_; rintro e w1 ⟨rfl, rfl⟩; rw [← HX.out])
  go_ret
  exact ⟨by rw [← HA.out]; first | rfl | simp, Drawn0.refl _⟩

def clone.f (l0 : List Int) : Option (List Int) := if l0.length < 17592186044416 then some l0 else none
set_option maxHeartbeats 4000000 in
set_option maxRecDepth 100000 in
theorem clone.calls (A0 : Option Addr) (c0 : Nat) (l0 : List Int) (r : List Int) (w : World) (hr0 : Kd.C (Kd.int .i64) w A0 l0.length l0) (_hc0 : l0.length ≤ c0) (h : clone.f l0 = some r) :
    Calls Try.prog 57 #[.slice A0 l0.length c0] w fun e w' => ∃ v0_ : Value, e = .returned (v0_) ∧ Kd.R (Kd.int .i64) 3 w' w.heap.size (fun _ => True) v0_ r ∧ Below w.heap.size w w' := by
  unfold clone.f at h
  by_cases hbig : l0.length < 17592186044416
  · rw [if_pos hbig] at h
    obtain rfl := Option.some.inj h
    clear h
    have q22 : ∀ (w : World) (a : Option Addr) (n c n' c' : Nat), (binOp .eql 22 (.slice a n c) (.slice none n' c')).run Try.prog w = .ok (.bool a.isNone) w := fun w a n c n' c' => Lib.run_eql_slice_nil w _ _ a n c n' c' Try.underlying22
    have HR := Aside0.mk hr0
    clear hr0
    cases A0 with
    | none =>
      have hl : l0 = [] := by
        rcases Nat.eq_zero_or_pos l0.length with h0 | h0
        · exact List.eq_nil_of_length_eq_zero h0
        · obtain ⟨ad, e, _⟩ := HR.out.2.2 h0; cases e
      subst hl
      clear HR
      go_enter Try.func57, Try.ntmps57
      go_wp2
      go_ret
      exact ⟨_, rfl, Kd.R_nil _ _ _ _ _, Below.refl _ _⟩
    | some ad =>
      have HBig := Aside0.mk hbig
      go_enter Try.func57, Try.ntmps57
      go_wp2_with (at_builtin; refine Kd.R_append_rows (Kd.int .i64) (w0 := w) w.heap.size rfl _ _ 22 3 (.int .i64 0) 8 rfl Try.underlying22 info3 rfl (by decide) (by omega) _ ([] : List Int) l0 _ _ _ (fun _ => True) (fun _ => False) rfl rfl ?aO ?aR (fun _ _ h => h) (fun _ h => h.elim) ?aF ?aB ?aS ?aL ?_)
      case aO => exact Kd.R_of_own (World.ownsRow_made w #[] 0 (Nat.le_refl _) (Nat.zero_le _) rfl) (fun _ _ => trivial)
      case aR => exact Kd.C_alloc HR.out _
      case aF => exact fun _ _ => trivial
      case aB => exact below_alloc (Below.refl _ _) _
      case aS => simp
      case aL => have := HBig.out; simp; omega
      intro v1 w1 ho hb _ _
      have HO := Aside0.mk ho
      have HB := Aside0.mk hb
      clear ho hb
      go_wp2
      go_ret
      exact ⟨_, rfl, HO.out, HB.out⟩
  · rw [if_neg hbig] at h; cases h
end Go.Proofs.Ytbigfkfnlbfkhaa.HPred
