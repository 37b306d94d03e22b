/- RealTells, by hand: the law's own walk. -/
import Derived.Test.YtbgpdofbnifapaaTellsWalks
namespace Go.Proofs.Ytbgpdofbnifapaa.R
open Go.RowKit Go.Proofs.YtbgpdofbnifapaaW.PrintWords Go.Proofs.YtbgpdofbnifapaaW.PrintLast Go.Proofs.YtbgpdofbnifapaaW.PrintMore
open Flt (val val_le val_zero)

theorem reforder_at (x y : Nat) (hx : x < 18446744073709551616) (hy : y < 18446744073709551616) (w : World) : Calls Try.prog 24 #[.float .f64 x, .float .f64 y] w fun e w' => e = .returned (.int .i64 (cmp x y)) ∧ w = w' := by
  have P : ∀ v n, (if Flt.nan v then (0 : Int) else 1) = n → Aside0 (∀ w, Calls Try.prog 39 #[.float .f64 v] w fun e w' => e = .returned (.int .i64 n) ∧ w = w') := fun v n h => ⟨fun w => h ▸ place_at v w⟩
  have S : ∀ v (_ : v < 18446744073709551616) b, Flt.low v = b → Aside0 (∀ w, Calls Try.prog 40 #[.float .f64 v] w fun e w' => e = .returned (.bool b) ∧ w = w') := fun v hv b h => ⟨fun w => h ▸ signbit_at v hv w⟩
  have nk : ∀ v, Flt.nan v = true → key v = -9223372036854775808 := fun v h => by unfold key; rw [if_pos h]
  have kk : ∀ v, v < 18446744073709551616 → Flt.nan v = false → -9223372036854775808 < key v := fun v hv h => by
    rw [key_low v hv h]
    have := rung_lt v
    have : Flt.rung v ≤ 9218868437227405312 := by unfold Flt.nan Flt.inf at h; simpa using h
    split <;> omega
  cases nx : Flt.nan x <;> cases ny : Flt.nan y
  · have o := ord_cases x y
    rw [nx, ny] at o
    have px := P x 1 (by rw [nx]; rfl)
    have py := P y 1 (by rw [ny]; rfl)
    rcases o with ⟨e, _⟩ | ⟨_, _, ⟨l, _, g, k⟩ | ⟨l, _, g, k⟩ | ⟨l, _, g, k⟩⟩
    · simp at e
    · have hc : cmp x y = -1 := by have := num_key x y hx hy nx ny k; unfold cmp; rw [if_pos this]
      rw [hc]
      exact reforder_lt x y w px py l
    · have kx := key_low x hx nx
      have ky := key_low y hy ny
      unfold Flt.num Flt.sgn at k
      cases sx : Flt.low x <;> cases sy : Flt.low y <;> rw [sx] at k kx <;> rw [sy] at k ky <;> simp only [if_true, if_false, Bool.false_eq_true] at k kx ky
      · have hc : cmp x y = 0 := by unfold cmp; rw [if_neg (by omega), if_neg (by omega)]
        rw [hc]; exact reforder_s00 x y w px py l g (S x hx _ sx) (S y hy _ sy)
      · have hc : cmp x y = 1 := by unfold cmp; rw [if_neg (by omega), if_pos (by omega)]
        rw [hc]; exact reforder_s01 x y w px py l g (S x hx _ sx) (S y hy _ sy)
      · have hc : cmp x y = -1 := by unfold cmp; rw [if_pos (by omega)]
        rw [hc]; exact reforder_s10 x y w px py l g (S x hx _ sx) (S y hy _ sy)
      · have hc : cmp x y = 0 := by unfold cmp; rw [if_neg (by omega), if_neg (by omega)]
        rw [hc]; exact reforder_s11 x y w px py l g (S x hx _ sx) (S y hy _ sy)
    · have hc : cmp x y = 1 := by have := num_key y x hy hx ny nx k; unfold cmp; rw [if_neg (by omega), if_pos this]
      rw [hc]
      exact reforder_gt x y w px py l g
  · have hc : cmp x y = 1 := by have := nk y ny; have := kk x hx nx; unfold cmp; rw [if_neg (by omega), if_pos (by omega)]
    rw [hc]
    exact reforder_yn x y w (P x 1 (by rw [nx]; rfl)) (P y 0 (by rw [ny]; rfl))
  · have hc : cmp x y = -1 := by have := nk x nx; have := kk y hy ny; unfold cmp; rw [if_pos (by omega)]
    rw [hc]
    exact reforder_ny x y w (P x 0 (by rw [nx]; rfl)) (P y 1 (by rw [ny]; rfl))
  · have hc : cmp x y = 0 := by have := nk x nx; have := nk y ny; unfold cmp; rw [if_neg (by omega), if_neg (by omega)]
    rw [hc]
    exact reforder_nn x y w (P x 0 (by rw [nx]; rfl)) (P y 0 (by rw [ny]; rfl))
theorem reftick_at (x : Nat) (hx : x < 18446744073709551616) (w : World) : Calls Try.prog 26 #[.float .f64 x] w fun e w' => e = .returned (.int .u64 (tick x : Int)) ∧ w = w' := by
  have o := ord_cases x 0
  have hs := ord_self x
  cases h0 : gt x 0
  · have t0 : tick x = 0 := by unfold tick; rw [h0]; rfl
    rw [t0]
    rcases o with ⟨e, _⟩ | ⟨nx, _, ⟨e, _⟩ | ⟨_, e, _⟩ | ⟨_, _, e, _⟩⟩
    · rcases e with e | e
      · rw [e] at hs; exact reftick_nan x w hs
      · rw [nan_zero] at e; cases e
    · rw [nx] at hs; exact reftick_low x w hs (by unfold lt at e; rw [e]; rfl)
    · rw [nx] at hs; exact reftick_low x w hs (by unfold eq at e; rw [e]; simp)
    · rw [e] at h0; cases h0
  · have hp := gt_pos x hx h0
    have nx := nan_nat x hp.2
    rw [nx] at hs
    have hz : (FloatKind.f64.format.order x 0 == some .lt || FloatKind.f64.format.order x 0 == some .eq) = false := by
      rcases o with ⟨_, _, _, e⟩ | ⟨_, _, ⟨_, _, e, _⟩ | ⟨_, _, e, _⟩ | ⟨e1, e2, _⟩⟩
      · rw [e] at h0; cases h0
      · rw [e] at h0; cases h0
      · rw [e] at h0; cases h0
      · unfold lt at e1; unfold eq at e2; rw [e1, e2]; rfl
    have hq := ge_P40 hp.2
    rw [tick_pos x hp.1 hp.2]
    by_cases hP : P40 ≤ x
    · rw [if_pos hP]
      rw [decide_eq_true hP] at hq
      exact reftick_high x w hs hz hq
    · rw [if_neg hP]
      rw [decide_eq_false hP] at hq
      have hu := up_40 (show x < P40 by omega)
      obtain ⟨n, hn⟩ : ∃ n, n = val x / U := ⟨_, rfl⟩
      have hnu : n ≤ up (val x) U := by rw [hn]; exact Nat.le_add_right _ _
      have hc : ∀ w, (convert 22 29 (.float .f64 x)).run Try.prog w = .ok (.int .u64 (n : Int)) w := fun w =>
        run_convert_float_int w 22 29 .f64 .u64 x n (by rw [Try.underlying22]; rfl) Try.underlying29 (hn ▸ toint_is x (by unfold P40 at hP; unfold Flt.inf; omega) (by rw [← hn]; omega))
      have hf : floatOfInt .f64 (n : Int) = fl n := fl_is n (by omega)
      have hb := fl_lt n (by omega)
      have hlt := lt_nat (x := fl n) (y := x) (by omega) hp.2
      have hvf := val_fl n (by omega)
      have hdm := Nat.div_add_mod (val x) U
      rw [← hn, Nat.mul_comm] at hdm
      by_cases hr : val x % U = 0
      · have e : up (val x) U = n := by unfold up; rw [hr, hn]; rfl
        rw [e]
        have : ¬ fl n < x := by
          intro h
          have := Flt.val_mono h
          omega
        rw [decide_eq_false this] at hlt
        exact reftick_just x (fl n) n w hs hz hq hc hf hlt
      · have e : ((up (val x) U : Nat) : Int) = (n : Int) + 1 := by
          have e1 : (val x % U != 0).toNat = 1 := by rw [bne_iff_ne.2 hr]; rfl
          unfold up
          rw [← hn, e1]
          rfl
        rw [e]
        have : fl n < x := lt_val (by omega)
        rw [decide_eq_true this] at hlt
        exact reftick_more x (fl n) n w hs hz hq hc hf hlt (by omega)
set_option maxHeartbeats 2000000 in
theorem tells_walk (x y z c v : Nat) (o t : Int) (w : World)
    (H1 : Aside0 (∀ w, Calls Try.prog 13 #[.float .f64 x, .float .f64 y] w fun e w' => e = .returned (.int .i64 o) ∧ w = w'))
    (H2 : Aside0 (∀ w, Calls Try.prog 24 #[.float .f64 x, .float .f64 y] w fun e w' => e = .returned (.int .i64 o) ∧ w = w'))
    (H3 : Aside0 (∀ w, Calls Try.prog 18 #[.float .f64 x, .float .f64 y, .float .f64 z] w fun e w' => e = .returned (.float .f64 c) ∧ w = w'))
    (H4 : Aside0 (∀ w, Calls Try.prog 22 #[.float .f64 x, .float .f64 y, .float .f64 z] w fun e w' => e = .returned (.float .f64 c) ∧ w = w'))
    (H5 : Aside0 (∀ w, Calls Try.prog 23 #[.float .f64 x, .float .f64 y, .float .f64 z] w fun e w' => e = .returned (.float .f64 v) ∧ Below w.heap.size w w'))
    (H6 : Aside0 (∀ w, Calls Try.prog 25 #[.float .f64 x, .float .f64 y, .float .f64 z] w fun e w' => e = .returned (.float .f64 v) ∧ Below w.heap.size w w'))
    (H7 : Aside0 (∀ w, Calls Try.prog 17 #[.float .f64 x] w fun e w' => e = .returned (.int .u64 t) ∧ w = w'))
    (H8 : Aside0 (∀ w, Calls Try.prog 26 #[.float .f64 x] w fun e w' => e = .returned (.int .u64 t) ∧ w = w'))
    (A1 : Aside0 (∀ w, Calls Try.prog 15 #[.float .f64 c, .float .f64 c] w fun e w' => e = .returned (.bool true) ∧ w = w'))
    (A2 : Aside0 (∀ w, Calls Try.prog 15 #[.float .f64 v, .float .f64 v] w fun e w' => e = .returned (.bool true) ∧ w = w')) :
    Calls Try.prog 11 #[.float .f64 x, .float .f64 y, .float .f64 z] w fun e w' => e = .returned (.bool true) ∧ Below w.heap.size w w' := by
  have HS := Aside0.mk shown_at
  have hB := Aside0.mk (Below.refl w.heap.size w)
  go_enter Try.func11, Try.ntmps11
  go_wp2_with (first
    | (go_at_call 13; (with_reducible refine (H1.out _).mono ?_); rintro e w' ⟨rfl, rfl⟩)
    | (go_at_call 24; (with_reducible refine (H2.out _).mono ?_); rintro e w' ⟨rfl, rfl⟩)
    | (go_at_call 18; (with_reducible refine (H3.out _).mono ?_); rintro e w' ⟨rfl, rfl⟩)
    | (go_at_call 22; (with_reducible refine (H4.out _).mono ?_); rintro e w' ⟨rfl, rfl⟩)
    | (go_at_call 23; (with_reducible refine (H5.out _).mono ?_); rintro e w' ⟨rfl, hb⟩; replace hB := Aside0.mk (below_step hB.out hb); clear hb)
    | (go_at_call 25; (with_reducible refine (H6.out _).mono ?_); rintro e w' ⟨rfl, hb⟩; replace hB := Aside0.mk (below_step hB.out hb); clear hb)
    | (go_at_call 17; (with_reducible refine (H7.out _).mono ?_); rintro e w' ⟨rfl, rfl⟩)
    | (go_at_call 26; (with_reducible refine (H8.out _).mono ?_); rintro e w' ⟨rfl, rfl⟩)
    | (go_at_call 15; (with_reducible refine (A1.out _).mono ?_); rintro e w' ⟨rfl, rfl⟩)
    | (go_at_call 15; (with_reducible refine (A2.out _).mono ?_); rintro e w' ⟨rfl, rfl⟩)
    | (go_at_call 14; (with_reducible refine (HS.out _).mono ?_); rintro e w' ⟨rfl, rfl⟩))
  go_ret
  exact ⟨rfl, hB.out⟩
theorem tells_law (x y z : Nat) (hx : x < 18446744073709551616) (hy : y < 18446744073709551616) (hz : z < 18446744073709551616) (w : World) :
    Calls Try.prog 11 #[.float .f64 x, .float .f64 y, .float .f64 z] w fun e w' => e = .returned (.bool true) ∧ Below w.heap.size w w' :=
  tells_walk x y z _ _ _ _ w ⟨order_at x y hx hy⟩ ⟨reforder_at x y hx hy⟩ ⟨clean_at x y z⟩ ⟨refclean_at x y z⟩ ⟨blend_at x y z hz⟩ ⟨refblend_at x y z hz⟩ ⟨tick_at x hx⟩ ⟨reftick_at x hx⟩
    ⟨fun w => alike_self (clean x y z) ▸ alike_at _ _ w⟩ ⟨fun w => alike_self (blend x y z) ▸ alike_at _ _ w⟩
end Go.Proofs.Ytbgpdofbnifapaa.R
