/- RealTicks, by hand: the law's own walk. -/
import Derived.Test.YtbgpdofbnifapaaTicks
import Derived.Test.YtbgpdofbnifapaaBlendLaw
namespace Go.Proofs.Ytbgpdofbnifapaa.R
open Go.RowKit Go.Proofs.YtbgpdofbnifapaaW.PrintWords Go.Proofs.YtbgpdofbnifapaaW.PrintLast Go.Proofs.YtbgpdofbnifapaaW.PrintMore
open Flt (val val_le val_zero)

set_option maxHeartbeats 2000000 in
theorem ticks_zero (x y : Nat) (b : Int) (w : World) (n l z : Bool)
    (H1 : Aside0 (∀ w, Calls Try.prog 17 #[.float .f64 x] w fun e w' => e = .returned (.int .u64 0) ∧ w = w'))
    (H2 : Aside0 (∀ w, Calls Try.prog 17 #[.float .f64 y] w fun e w' => e = .returned (.int .u64 b) ∧ w = w'))
    (hl : (FloatKind.f64.format.order x y == some .lt || FloatKind.f64.format.order x y == some .eq) = l) (hb : 0 ≤ b)
    (hn : (FloatKind.f64.format.order x x != some .eq) = n) (hz : (FloatKind.f64.format.order x 0 == some .lt || FloatKind.f64.format.order x 0 == some .eq) = z) (h : n = true ∨ z = true) :
    Calls Try.prog 5 #[.float .f64 x, .float .f64 y] w fun e w' => e = .returned (.bool true) ∧ w = w' := by
  have HS := Aside0.mk shown_at
  have hb' : ¬ b < 0 := by omega
  cases l <;> cases n <;> cases z <;> first | (simp at h; done) | skip
  all_goals
    clear h
    go_enter Try.func5, Try.ntmps5
    go_wp2_with (first
      | (go_at_call 17; (with_reducible refine (H1.out _).mono ?_); rintro e w' ⟨rfl, rfl⟩)
      | (go_at_call 17; (with_reducible refine (H2.out _).mono ?_); rintro e w' ⟨rfl, rfl⟩)
      | (go_at_call 14; (with_reducible refine (HS.out _).mono ?_); rintro e w' ⟨rfl, rfl⟩))
    go_ret
    exact ⟨rfl, rfl⟩
set_option maxHeartbeats 2000000 in
theorem ticks_more (x y f f1 : Nat) (a b : Int) (w : World) (l : Bool)
    (H1 : Aside0 (∀ w, Calls Try.prog 17 #[.float .f64 x] w fun e w' => e = .returned (.int .u64 a) ∧ w = w'))
    (H2 : Aside0 (∀ w, Calls Try.prog 17 #[.float .f64 y] w fun e w' => e = .returned (.int .u64 b) ∧ w = w'))
    (hl : (FloatKind.f64.format.order x y == some .lt || FloatKind.f64.format.order x y == some .eq) = l) (hb : l = true → a ≤ b)
    (hn : (FloatKind.f64.format.order x x != some .eq) = false) (hz : (FloatKind.f64.format.order x 0 == some .lt || FloatKind.f64.format.order x 0 == some .eq) = false)
    (ha1 : 1 ≤ a) (ha2 : a ≤ 1099511627776) (hf : floatOfInt .f64 a = f) (hf1 : floatOfInt .f64 (a - 1) = f1)
    (hge : a = 1099511627776 ∨ (FloatKind.f64.format.order f x == some .gt || FloatKind.f64.format.order f x == some .eq) = true)
    (hlt : (FloatKind.f64.format.order f1 x == some .lt) = true) :
    Calls Try.prog 5 #[.float .f64 x, .float .f64 y] w fun e w' => e = .returned (.bool true) ∧ w = w' := by
  have HS := Aside0.mk shown_at
  have hw : (a - 1) % 18446744073709551616 = a - 1 := by omega
  by_cases hm : a = 1099511627776
  · subst hm
    have hf2 : floatOfInt .f64 1099511627775 = f1 := hf1
    clear hf1
    cases l
    · clear hb hge
      go_enter Try.func5, Try.ntmps5
      go_wp2_with (first
        | (go_at_call 17; (with_reducible refine (H1.out _).mono ?_); rintro e w' ⟨rfl, rfl⟩)
        | (go_at_call 17; (with_reducible refine (H2.out _).mono ?_); rintro e w' ⟨rfl, rfl⟩)
        | (go_at_call 14; (with_reducible refine (HS.out _).mono ?_); rintro e w' ⟨rfl, rfl⟩))
      go_ret
      exact ⟨rfl, rfl⟩
    · have hb' : decide (b < 1099511627776) = false := decide_eq_false (by have := hb rfl; omega)
      clear hb hge
      go_enter Try.func5, Try.ntmps5
      go_wp2_with (first
        | (go_at_call 17; (with_reducible refine (H1.out _).mono ?_); rintro e w' ⟨rfl, rfl⟩)
        | (go_at_call 17; (with_reducible refine (H2.out _).mono ?_); rintro e w' ⟨rfl, rfl⟩)
        | (go_at_call 14; (with_reducible refine (HS.out _).mono ?_); rintro e w' ⟨rfl, rfl⟩))
      go_ret
      exact ⟨rfl, rfl⟩
  · have hge' := hge.resolve_left hm
    cases l
    · clear hb hge
      go_enter Try.func5, Try.ntmps5
      go_wp2_with (first
        | (go_at_call 17; (with_reducible refine (H1.out _).mono ?_); rintro e w' ⟨rfl, rfl⟩)
        | (go_at_call 17; (with_reducible refine (H2.out _).mono ?_); rintro e w' ⟨rfl, rfl⟩)
        | (go_at_call 14; (with_reducible refine (HS.out _).mono ?_); rintro e w' ⟨rfl, rfl⟩))
      go_ret
      exact ⟨rfl, rfl⟩
    · have hb' := hb rfl
      clear hb hge
      go_enter Try.func5, Try.ntmps5
      go_wp2_with (first
        | (go_at_call 17; (with_reducible refine (H1.out _).mono ?_); rintro e w' ⟨rfl, rfl⟩)
        | (go_at_call 17; (with_reducible refine (H2.out _).mono ?_); rintro e w' ⟨rfl, rfl⟩)
        | (go_at_call 14; (with_reducible refine (HS.out _).mono ?_); rintro e w' ⟨rfl, rfl⟩))
      go_ret
      exact ⟨rfl, rfl⟩
theorem gt_nat {x : Nat} (hx : x ≤ 9218868437227405312) : gt x 0 = decide (0 < x) := by
  unfold gt
  rw [ord_nat x 0 hx (by omega)]
  rcases cmp_cases (x : Int) ((0 : Nat) : Int) with ⟨e, k⟩ | ⟨e, k⟩ | ⟨e, k⟩ <;> rw [e]
  · omega
  · rw [decide_eq_false (by omega)]; rfl
  · rw [decide_eq_true (by omega)]; rfl
theorem gt_pos (x : Nat) (hx : x < 18446744073709551616) (h : gt x 0 = true) : 0 < x ∧ x ≤ 9218868437227405312 := by
  have o := ord_cases x 0
  rw [num_zero, nan_zero] at o
  have h2 : Flt.nan x = false ∧ 0 < Flt.num x := by
    rcases o with ⟨_, _, _, e⟩ | ⟨nx, _, ⟨_, _, e, _⟩ | ⟨_, _, e, _⟩ | ⟨_, _, _, e⟩⟩
    · rw [e] at h; cases h
    · rw [e] at h; cases h
    · rw [e] at h; cases h
    · exact ⟨nx, e⟩
  obtain ⟨h3, h4⟩ := h2
  unfold Flt.num Flt.sgn at h4
  unfold Flt.nan Flt.inf at h3
  have h5 : Flt.rung x ≤ 9218868437227405312 := by simpa using h3
  cases hl : Flt.low x
  · rw [hl] at h4
    simp only [if_false, Bool.false_eq_true] at h4
    have : x = Flt.rung x := by
      unfold Flt.low at hl
      unfold Flt.rung
      have : x / 9223372036854775808 % 2 ≠ 1 := by simpa using hl
      omega
    omega
  · rw [hl] at h4
    simp only [if_true] at h4
    omega
theorem ge_P40 {x : Nat} (hx : x ≤ 9218868437227405312) : ge x P40 = decide (P40 ≤ x) := by
  unfold ge gt eq
  rw [ord_nat x P40 hx (by decide)]
  rcases cmp_cases (x : Int) (P40 : Int) with ⟨e, k⟩ | ⟨e, k⟩ | ⟨e, k⟩ <;> rw [e]
  · rw [decide_eq_false (by omega)]; rfl
  · rw [decide_eq_true (by omega)]; rfl
  · rw [decide_eq_true (by omega)]; rfl
theorem tick_pos (x : Nat) (h0 : 0 < x) (h1 : x ≤ 9218868437227405312) : tick x = if P40 ≤ x then 1099511627776 else up (val x) U := by
  unfold tick
  rw [gt_nat h1, decide_eq_true h0, ge_P40 h1]
  simp only [if_true, decide_eq_true_eq]
theorem tick_le (x : Nat) (h0 : 0 < x) (h1 : x ≤ 9218868437227405312) : 1 ≤ tick x ∧ tick x ≤ 1099511627776 := by
  rw [tick_pos x h0 h1]
  split
  · omega
  · rename_i h
    exact ⟨up_pos U_pos (Flt.val_pos.2 h0), up_40 (by omega)⟩
theorem tick_mono (x y : Nat) (h0 : 0 < x) (hy : y ≤ 9218868437227405312) (h : x ≤ y) : tick x ≤ tick y := by
  have h1 := (tick_le y (by omega) hy).1
  rw [tick_pos y (by omega) hy]
  rw [tick_pos x h0 (by omega)]
  split
  · rw [if_pos (by omega)]; exact Nat.le_refl _
  · rename_i hx
    split
    · exact up_40 (by omega)
    · exact up_mono U_pos (val_le h)
theorem ticks_law (x y : Nat) (hx : x < 18446744073709551616) (hy : y < 18446744073709551616) (w : World) :
    Calls Try.prog 5 #[.float .f64 x, .float .f64 y] w fun e w' => e = .returned (.bool true) ∧ w = w' := by
  have H1 := tick_at x hx
  have H2 : Aside0 (∀ w, Calls Try.prog 17 #[.float .f64 y] w fun e w' => e = .returned (.int .u64 (tick y : Int)) ∧ w = w') := ⟨tick_at y hy⟩
  have o := ord_cases x 0
  cases h0 : gt x 0
  · have t0 : tick x = 0 := by unfold tick; rw [h0]; rfl
    rw [t0] at H1
    refine ticks_zero x y (tick y) w _ _ _ ⟨H1⟩ H2 rfl (by omega) (ord_self x) rfl ?_
    rcases o with ⟨e, _⟩ | ⟨_, _, ⟨e, _⟩ | ⟨_, e, _⟩ | ⟨_, _, e, _⟩⟩
    · left
      rcases e with e | e
      · exact e
      · rw [nan_zero] at e; cases e
    · right; unfold lt at e; rw [e]; rfl
    · right; unfold eq at e; rw [e]; simp
    · rw [e] at h0; cases h0
  · have hp := gt_pos x hx h0
    have ht := tick_le x hp.1 hp.2
    have nx := nan_nat x hp.2
    refine ticks_more x y (fl (tick x)) (fl (tick x - 1)) (tick x) (tick y) w _ ⟨H1⟩ H2 rfl ?_ (by rw [ord_self, nx]) ?_ (by omega) (by omega) (fl_is _ (by omega)) ?_ ?_ ?_
    · intro hl
      have o2 := ord_cases x y
      have k : Flt.nan y = false ∧ Flt.num x ≤ Flt.num y := by
        rcases o2 with ⟨_, e1, e2, _⟩ | ⟨_, n2, ⟨_, _, _, e⟩ | ⟨_, _, _, e⟩ | ⟨e1, e2, _⟩⟩
        · unfold lt at e1; unfold eq at e2; rw [e1, e2] at hl; cases hl
        · exact ⟨n2, by omega⟩
        · exact ⟨n2, by omega⟩
        · unfold lt at e1; unfold eq at e2; rw [e1, e2] at hl; cases hl
      have hgy : gt y 0 = true := by
        have o3 := ord_cases y 0
        rw [num_zero, nan_zero, k.1] at o3
        have kx : 0 < Flt.num x := by unfold Flt.num; rw [(Flt.rung_low x hp.2).1, (Flt.rung_low x hp.2).2]; simp [Flt.sgn]; exact hp.1
        rcases o3 with ⟨e, _⟩ | ⟨_, _, ⟨_, _, _, e⟩ | ⟨_, _, _, e⟩ | ⟨_, _, e, _⟩⟩
        · simp at e
        · omega
        · omega
        · exact e
      have hpy := gt_pos y hy hgy
      have hxy : x ≤ y := by
        have k2 := k.2
        unfold Flt.num at k2
        rw [(Flt.rung_low x hp.2).1, (Flt.rung_low x hp.2).2, (Flt.rung_low y hpy.2).1, (Flt.rung_low y hpy.2).2] at k2
        simp only [Flt.sgn, if_false, Bool.false_eq_true] at k2
        omega
      have := tick_mono x y hp.1 hpy.2 hxy
      omega
    · rcases o with ⟨_, _, _, e⟩ | ⟨_, _, ⟨_, _, e, _⟩ | ⟨_, _, e, _⟩ | ⟨e1, e2, _⟩⟩
      · rw [e] at h0; cases h0
      · rw [e] at h0; cases h0
      · rw [e] at h0; cases h0
      · unfold lt at e1; unfold eq at e2; rw [e1, e2]; rfl
    · have : ((tick x : Nat) : Int) - 1 = ((tick x - 1 : Nat) : Int) := by omega
      rw [this]
      exact fl_is _ (by omega)
    · by_cases hP : P40 ≤ x
      · left; rw [tick_pos x hp.1 hp.2, if_pos hP]; rfl
      · right
        have hb := fl_lt (tick x) (by omega)
        refine ge_nat (by omega) (le_val ?_)
        rw [val_fl _ (by omega), tick_pos x hp.1 hp.2, if_neg hP]
        exact le_up U_pos
    · have hb := fl_lt (tick x - 1) (by omega)
      rw [lt_nat (by omega) hp.2, decide_eq_true]
      by_cases hP : P40 ≤ x
      · rw [tick_pos x hp.1 hp.2, if_pos hP]
        refine Nat.lt_of_lt_of_le (lt_val ?_) hP
        rw [val_fl _ (by omega), val_40]
        exact Nat.mul_lt_mul_of_pos_right (by omega) U_pos
      · apply lt_val
        rw [val_fl _ (by omega), tick_pos x hp.1 hp.2, if_neg hP]
        exact up_pred U_pos (Flt.val_pos.2 hp.1)
end Go.Proofs.Ytbgpdofbnifapaa.R
