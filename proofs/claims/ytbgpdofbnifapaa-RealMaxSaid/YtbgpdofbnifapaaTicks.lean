/- By hand: ticks, by the program and by the document. -/
import Derived.Test.YtbgpdofbnifapaaWhole
import Derived.Test.YtbgpdofbnifapaaWaitWalk
namespace Go.Proofs.Ytbgpdofbnifapaa.R
open Go.RowKit Go.Proofs.YtbgpdofbnifapaaW.PrintWords Go.Proofs.YtbgpdofbnifapaaW.PrintLast Go.Proofs.YtbgpdofbnifapaaW.PrintMore
open Flt (val val_le val_zero)

def P40 : Nat := 4787326403894837248
theorem val_40 : val P40 = 1099511627776 * U := by decide +kernel
/-- ticks of a double -/
def tick (x : Nat) : Nat := if gt x 0 then (if ge x P40 then 1099511627776 else up (val x) U) else 0
/-- a double above nought, and below 2^40, is that many units -/
theorem low_40 (x : Nat) (hx : x < 18446744073709551616) (h0 : gt x 0 = true) (h1 : ge x P40 = false) : 0 < x ∧ x < P40 := by
  have o0 := ord_cases x 0
  have o1 := ord_cases x P40
  rw [num_zero, nan_zero] at o0
  have nP : Flt.nan P40 = false := nan_nat P40 (by decide)
  have kP : Flt.num P40 = (P40 : Int) := by decide
  rw [nP, kP] at o1
  unfold ge at h1
  have h : Flt.nan x = false ∧ 0 < Flt.num x := by
    rcases o0 with ⟨_, _, _, e⟩ | ⟨nx, _, ⟨_, _, e, _⟩ | ⟨_, _, e, _⟩ | ⟨_, _, _, e⟩⟩
    · rw [e] at h0; cases h0
    · rw [e] at h0; cases h0
    · rw [e] at h0; cases h0
    · exact ⟨nx, e⟩
  have k : Flt.num x < (P40 : Int) := by
    rcases o1 with ⟨e, _⟩ | ⟨_, _, ⟨_, _, _, e⟩ | ⟨_, e, _⟩ | ⟨_, _, e, _⟩⟩
    · rw [h.1] at e; simp at e
    · exact e
    · rw [e] at h1; simp at h1
    · rw [e] at h1; simp at h1
  have hk := h.2
  unfold Flt.num Flt.sgn at hk k
  cases hl : Flt.low x
  · rw [hl] at hk k
    simp only [if_false, Bool.false_eq_true] at hk k
    have : x = Flt.rung x := by
      unfold Flt.low at hl
      unfold Flt.rung
      have : x / 9223372036854775808 % 2 ≠ 1 := by simpa using hl
      omega
    omega
  · rw [hl] at hk
    simp only [if_true] at hk
    omega
theorem up_40 {x : Nat} (h : x < P40) : up (val x) U ≤ 1099511627776 := up_le (by rw [← val_40]; exact val_le (Nat.le_of_lt h))
theorem lt_val {x y : Nat} (h : val x < val y) : x < y := by
  rcases Nat.lt_or_ge x y with e | e
  · exact e
  · have := val_le e; omega
theorem le_val {x y : Nat} (h : val x ≤ val y) : x ≤ y := by
  rcases Nat.lt_or_ge y x with e | e
  · have := Flt.val_mono e; omega
  · exact e
open Ieee in
theorem archceil_run (x : Nat) (hx : x < Flt.inf) (hc : up (val x) U < 9223372036854775808) (w : World) : (callFunc 47 #[.float .f64 x]).run Try.prog w = .ok (.value (.float .f64 (fl (up (val x) U)))) w := by
  rw [run_callFunc_extern Try.func47 (by kernel_rfl) (by kernel_rfl) (by kernel_rfl) (e := Extern.MathFloor.toIntegral "math.archCeil" .up) (by kernel_rfl)]
  have pr := Flt.rung_low x (by omega)
  obtain ⟨m, e, ex, _⟩ := Flt.read_fin x (by rw [pr.1]; exact hx)
  have ed : FloatKind.f64.decode x = .number (Flt.low x) m (double.leastPlace + (e : Nat)) := ex
  have hi := integral_up x hx
  rw [ex] at hi
  have hw := write_whole _ hc
  rw [← hi] at hw
  have hs : ∃ f, Extern.MathFloor.toIntegral "math.archCeil" .up #[.float .f64 x] = Extern.MathFloor.toIntegral.match_1 (fun _ => Sem Value) (FloatKind.f64.decode x) f (fun d => pure (.float .f64 (FloatKind.f64.encode (d.integral .up)))) := ⟨_, rfl⟩
  obtain ⟨f, hf⟩ := hs
  rw [hf, ed]
  show ((Sem.run Try.prog (pure (Value.float .f64 (FloatKind.f64.encode _))) w).andThen _) = _
  rw [hw]
  rfl
theorem ceil_at (x : Nat) (hx : x < Flt.inf) (hc : up (val x) U < 9223372036854775808) (w : World) : Calls Try.prog 35 #[.float .f64 x] w fun e w' => e = .returned (.float .f64 (fl (up (val x) U))) ∧ w = w' := by
  have HC := archceil_run x hx hc
  generalize fl (up (val x) U) = c at HC ⊢
  clear hc hx
  go_enter Try.func35, Try.ntmps35
  go_wp2
  go_ret
  exact ⟨rfl, rfl⟩
theorem conv_whole (c : Nat) (hc : c < 9007199254740992) (w : World) : (convert 22 29 (.float .f64 (fl c))).run Try.prog w = .ok (.int .u64 (c : Int)) w := by
  have hb := fl_lt c (by omega)
  have h := toint_is (fl c) (by unfold Flt.inf; omega) (by rw [val_fl c hc, Nat.mul_div_cancel _ U_pos]; omega)
  rw [val_fl c hc, Nat.mul_div_cancel _ U_pos] at h
  exact run_convert_float_int w 22 29 .f64 .u64 (fl c) c (by rw [Try.underlying22]; rfl) Try.underlying29 h
theorem tick_at (x : Nat) (hx : x < 18446744073709551616) (w : World) : Calls Try.prog 17 #[.float .f64 x] w fun e w' => e = .returned (.int .u64 (tick x : Int)) ∧ w = w' := by
  unfold tick
  cases h0 : gt x 0
  · have h0' : (FloatKind.f64.format.order x 0 == some .gt) = false := h0
    clear h0
    go_enter Try.func17, Try.ntmps17
    go_wp2
    go_ret
    exact ⟨rfl, rfl⟩
  · have h0' : (FloatKind.f64.format.order x 0 == some .gt) = true := h0
    cases h1 : ge x P40
    · have hl := low_40 x hx h0 h1
      have h1' : (FloatKind.f64.format.order x 4787326403894837248 == some .gt || FloatKind.f64.format.order x 4787326403894837248 == some .eq) = false := h1
      have hc := up_40 hl.2
      have HC := Aside0.mk (ceil_at x (by have := hl.2; unfold P40 at this; unfold Flt.inf; omega) (by omega))
      have hcv := conv_whole (up (val x) U) (by omega)
      simp only [if_true, if_false, Bool.false_eq_true]
      generalize fl (up (val x) U) = z at HC hcv
      generalize up (val x) U = c at hcv ⊢
      clear h0 h1 hc hl
      go_enter Try.func17, Try.ntmps17
      go_wp2_with (go_at_call 35; (with_reducible refine (HC.out _).mono ?_); rintro e w' ⟨rfl, rfl⟩)
      go_ret
      exact ⟨rfl, rfl⟩
    · have h1' : (FloatKind.f64.format.order x 4787326403894837248 == some .gt || FloatKind.f64.format.order x 4787326403894837248 == some .eq) = true := h1
      clear h0 h1
      go_enter Try.func17, Try.ntmps17
      go_wp2
      go_ret
      exact ⟨rfl, rfl⟩
end Go.Proofs.Ytbgpdofbnifapaa.R
