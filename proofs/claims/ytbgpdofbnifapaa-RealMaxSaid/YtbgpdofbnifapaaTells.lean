/- RealTells, by hand: the document's order and ticks, and the law's own walk. -/
import Derived.Test.YtbgpdofbnifapaaTicksLaw
import Derived.Test.YtbgpdofbnifapaaOrderLaw
namespace Go.Proofs.Ytbgpdofbnifapaa.R
open Go.RowKit Go.Proofs.YtbgpdofbnifapaaW.PrintWords Go.Proofs.YtbgpdofbnifapaaW.PrintLast Go.Proofs.YtbgpdofbnifapaaW.PrintMore
open Flt (val val_le val_zero)

theorem place_at (x : Nat) (w : World) : Calls Try.prog 39 #[.float .f64 x] w fun e w' => e = .returned (.int .i64 (if Flt.nan x then 0 else 1)) ∧ w = w' := by
  have h := ord_self x
  cases hn : Flt.nan x
  · rw [hn] at h
    go_enter Try.func39, Try.ntmps39
    go_wp2
    go_ret
    exact ⟨rfl, rfl⟩
  · rw [hn] at h
    go_enter Try.func39, Try.ntmps39
    go_wp2
    go_ret
    exact ⟨rfl, rfl⟩
theorem signbit_at (x : Nat) (hx : x < 18446744073709551616) (w : World) : Calls Try.prog 40 #[.float .f64 x] w fun e w' => e = .returned (.bool (Flt.low x)) ∧ w = w' := by
  have HB := bits_run x
  by_cases hl : x < 9223372036854775808
  · have hk : Flt.low x = false := by
      unfold Flt.low
      have : x / 9223372036854775808 = 0 := by omega
      rw [this]; rfl
    rw [hk]
    have hw : IntKind.i64.wrap (x : Int) = (x : Int) := by rw [IntKind.wrap_i64]; omega
    have hn : ¬ (x : Int) < 0 := by omega
    clear hk
    go_enter Try.func40, Try.ntmps40
    go_wp2
    go_ret
    exact ⟨rfl, rfl⟩
  · have hk : Flt.low x = true := by
      unfold Flt.low
      have : x / 9223372036854775808 = 1 := by omega
      rw [this]; rfl
    rw [hk]
    have hw : IntKind.i64.wrap (x : Int) = (x : Int) - 18446744073709551616 := by rw [IntKind.wrap_i64]; omega
    have hn : decide ((x : Int) - 18446744073709551616 < 0) = true := decide_eq_true (by omega)
    clear hk
    go_enter Try.func40, Try.ntmps40
    go_wp2
    go_ret
    exact ⟨rfl, rfl⟩
end Go.Proofs.Ytbgpdofbnifapaa.R
