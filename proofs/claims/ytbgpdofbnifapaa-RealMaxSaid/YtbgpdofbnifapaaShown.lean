/- By hand: the closed run that each law of layer 4 asks for. -/
import Derived.Test.YtbgpdofbnifapaaReal
namespace Go.Proofs.Ytbgpdofbnifapaa.R
open Go.RowKit Go.Proofs.YtbgpdofbnifapaaW.PrintWords Go.Proofs.YtbgpdofbnifapaaW.PrintLast Go.Proofs.YtbgpdofbnifapaaW.PrintMore
open Flt (nan num rung low sgn)

theorem frombits_run (n : Int) (w : World) : (callFunc 44 #[.int .u64 n]).run Try.prog w = .ok (.value (.float .f64 n.toNat)) w := by
  rw [run_callFunc_extern Try.func44 (by kernel_rfl) (by kernel_rfl) (by kernel_rfl) (e := Extern.MathFloatBits.float64frombits) (by kernel_rfl)]
  rfl
theorem nan_at (w : World) : Calls Try.prog 32 #[] w fun e w' => e = .returned (.float .f64 9221120237041090561) ∧ w = w' := by
  have HF := frombits_run 9221120237041090561
  go_enter Try.func32, Try.ntmps32
  go_wp2
  go_ret
  exact ⟨rfl, rfl⟩
theorem copysign_at (w : World) : Calls Try.prog 31 #[.float .f64 0, .float .f64 13830554455654793216] w fun e w' => e = .returned (.float .f64 9223372036854775808) ∧ w = w' := by
  have HB0 := bits_run 0
  have HB1 := bits_run 13830554455654793216
  have HF := frombits_run 9223372036854775808
  have a0 : bits .andNot .u64 0 9223372036854775808 = 0 := by decide
  have a1 : bits .and .u64 13830554455654793216 9223372036854775808 = 9223372036854775808 := by decide
  have a2 : bits .or .u64 0 9223372036854775808 = 9223372036854775808 := by decide
  go_enter Try.func31, Try.ntmps31
  go_wp2
  go_ret
  exact ⟨rfl, rfl⟩
theorem archceil_15 (w : World) : (callFunc 47 #[.float .f64 4609434218613702656]).run Try.prog w = .ok (.value (.float .f64 4611686018427387904)) w := by
  rw [run_callFunc_extern Try.func47 (by kernel_rfl) (by kernel_rfl) (by kernel_rfl) (e := Extern.MathFloor.toIntegral "math.archCeil" .up) (by kernel_rfl)]
  kernel_rfl
theorem ceil_15 (w : World) : Calls Try.prog 35 #[.float .f64 4609434218613702656] w fun e w' => e = .returned (.float .f64 4611686018427387904) ∧ w = w' := by
  have HC := archceil_15
  go_enter Try.func35, Try.ntmps35
  go_wp2
  go_ret
  exact ⟨rfl, rfl⟩
theorem ticks_15 (w : World) : Calls Try.prog 17 #[.float .f64 4609434218613702656] w fun e w' => e = .returned (.int .u64 2) ∧ w = w' := by
  have HC := Aside0.mk ceil_15
  have o1 : FloatKind.f64.format.order 4609434218613702656 0 = some .gt := by kernel_rfl
  have o2 : FloatKind.f64.format.order 4609434218613702656 4787326403894837248 = some .lt := by kernel_rfl
  have hcv : ∀ w, (convert 22 29 (.float .f64 4611686018427387904)).run Try.prog w = .ok (.int .u64 2) w := fun w => by kernel_rfl
  go_enter Try.func17, Try.ntmps17
  go_wp2_with (go_at_call 35; (with_reducible refine (HC.out _).mono ?_); rintro e w' ⟨rfl, rfl⟩)
  go_ret
  exact ⟨rfl, rfl⟩
theorem shown_at (w : World) : Calls Try.prog 14 #[] w fun e w' => e = .returned (.bool true) ∧ w = w' := by
  have H1 := Aside0.mk copysign_at
  have H2 := Aside0.mk nan_at
  have H3 := Aside0.mk ticks_15
  have c1 : cmp 9223372036854775808 0 = -1 := by kernel_rfl
  have c2 : cmp 9221120237041090561 4607182418800017408 = -1 := by kernel_rfl
  have c3 : blen 64 = 7 := by kernel_rfl
  have HO1 := Aside0.mk (fun w => c1 ▸ order_at 9223372036854775808 0 (by omega) (by omega) w)
  have HO2 := Aside0.mk (fun w => c2 ▸ order_at 9221120237041090561 4607182418800017408 (by omega) (by omega) w)
  have HB := Aside0.mk (fun w => c3 ▸ bits_at 64 (by omega) (by omega) w)
  clear c1 c2 c3
  go_enter Try.func14, Try.ntmps14
  go_wp2_with (first
    | (go_at_call 31; (with_reducible refine (H1.out _).mono ?_); rintro e w' ⟨rfl, rfl⟩)
    | (go_at_call 32; (with_reducible refine (H2.out _).mono ?_); rintro e w' ⟨rfl, rfl⟩)
    | (go_at_call 17; (with_reducible refine (H3.out _).mono ?_); rintro e w' ⟨rfl, rfl⟩)
    | (go_at_call 13; (with_reducible refine (HO1.out _).mono ?_); rintro e w' ⟨rfl, rfl⟩)
    | (go_at_call 13; (with_reducible refine (HO2.out _).mono ?_); rintro e w' ⟨rfl, rfl⟩)
    | (go_at_call 16; (with_reducible refine (HB.out _).mono ?_); rintro e w' ⟨rfl, rfl⟩))
  go_ret
  exact ⟨rfl, rfl⟩
end Go.Proofs.Ytbgpdofbnifapaa.R
