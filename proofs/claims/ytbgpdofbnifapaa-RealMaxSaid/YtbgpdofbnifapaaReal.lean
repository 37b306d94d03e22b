/- By hand: layer 4's functions over doubles, as whole numbers. -/
import Derived.Test.YtbgpdofbnifapaaWMore
import Derived.Test.YtbgpdofbnifapaaWLast
import Derived.Test.YtbgpdofbnifapaaProg
import Derived.Test.YtbgpdofbnifapaaFlt
import Derived.Laws.Cover2
import Derived.Laws.Externs
import Derived.Test.YtbgpdofbnifapaaLen
namespace Go.Proofs.Ytbgpdofbnifapaa.R
open Go.RowKit Go.Proofs.YtbgpdofbnifapaaW.PrintWords Go.Proofs.YtbgpdofbnifapaaW.PrintLast Go.Proofs.YtbgpdofbnifapaaW.PrintMore
open Flt (nan num rung low sgn)

theorem bits_run (b : Nat) (w : World) : (callFunc 33 #[.float .f64 b]).run Try.prog w = .ok (.value (.int .u64 (b : Int))) w := by
  rw [run_callFunc_extern Try.func33 (by kernel_rfl) (by kernel_rfl) (by kernel_rfl) (e := Extern.MathFloatBits.float64bits) (by kernel_rfl)]
  rfl
theorem ord (x y : Nat) : FloatKind.f64.format.order x y = if nan x = true ∨ nan y = true then none else some (compare (num x) (num y)) := Flt.order_is x y
theorem ord_self (x : Nat) : (FloatKind.f64.format.order x x != some .eq) = nan x := by
  rw [ord]
  by_cases h : nan x = true
  · rw [if_pos (.inl h), h]; rfl
  · rw [if_neg (by simp [h])]
    have : compare (num x) (num x) = .eq := by simp [compare, compareOfLessAndEq]
    rw [this]
    simp at h
    rw [h]
    rfl
theorem isnan_at (x : Nat) (w : World) : Calls Try.prog 36 #[.float .f64 x] w fun e w' => e = .returned (.bool (nan x)) ∧ w = w' := by
  have h := ord_self x
  go_enter Try.func36, Try.ntmps36
  go_wp2
  go_ret
  exact ⟨rfl, rfl⟩
/-- where a double stands: a number that rises as doubles do -/
def key (x : Nat) : Int := if nan x = true then -9223372036854775808 else if x < 9223372036854775808 then (x : Int) else 9223372036854775807 - (x : Int)
theorem key_at (x : Nat) (hx : x < 18446744073709551616) (w : World) : Calls Try.prog 30 #[.float .f64 x] w fun e w' => e = .returned (.int .i64 (key x)) ∧ w = w' := by
  have HN := Aside0.mk (isnan_at x)
  have HB := bits_run x
  by_cases h : nan x = true
  · have hk : key x = -9223372036854775808 := by unfold key; rw [if_pos h]
    rw [hk]
    rw [h] at HN
    go_enter Try.func30, Try.ntmps30
    go_wp2_with (go_at_call 36; refine (HN.out _).mono ?_; rintro e w' ⟨rfl, rfl⟩)
    go_ret
    exact ⟨rfl, rfl⟩
  · have h' : nan x = false := by simpa using h
    rw [h'] at HN
    by_cases hl : x < 9223372036854775808
    · have hk : key x = (x : Int) := by unfold key; rw [if_neg h, if_pos hl]
      rw [hk]
      have hw : IntKind.i64.wrap (x : Int) = (x : Int) := by rw [IntKind.wrap_i64]; omega
      have hn : ¬ (x : Int) < 0 := by omega
      clear h hk
      go_enter Try.func30, Try.ntmps30
      go_wp2_with (go_at_call 36; refine (HN.out _).mono ?_; rintro e w' ⟨rfl, rfl⟩)
      go_ret
      exact ⟨rfl, rfl⟩
    · have hk : key x = 9223372036854775807 - (x : Int) := by unfold key; rw [if_neg h, if_neg hl]
      have e : 9223372036854775807 - (x : Int) = -1 - ((x : Int) - 18446744073709551616 + 9223372036854775808) := by omega
      rw [hk, e]
      clear e
      have hw : IntKind.i64.wrap (x : Int) = (x : Int) - 18446744073709551616 := by rw [IntKind.wrap_i64]; omega
      clear h hk
      go_enter Try.func30, Try.ntmps30
      go_wp2_with (go_at_call 36; refine (HN.out _).mono ?_; rintro e w' ⟨rfl, rfl⟩)
      go_ret
      exact ⟨rfl, rfl⟩
/-- how two doubles stand in the one row -/
def cmp (x y : Nat) : Int := if key x < key y then -1 else if key y < key x then 1 else 0
set_option maxHeartbeats 2000000 in
theorem order_at (x y : Nat) (hx : x < 18446744073709551616) (hy : y < 18446744073709551616) (w : World) : Calls Try.prog 13 #[.float .f64 x, .float .f64 y] w fun e w' => e = .returned (.int .i64 (cmp x y)) ∧ w = w' := by
  have HX := Aside0.mk (key_at x hx)
  have HY := Aside0.mk (key_at y hy)
  obtain ⟨a, ha⟩ : ∃ a, a = key x := ⟨_, rfl⟩
  obtain ⟨b, hb⟩ : ∃ b, b = key y := ⟨_, rfl⟩
  unfold cmp
  rw [← ha] at HX ⊢
  rw [← hb] at HY ⊢
  clear ha hb
  by_cases h1 : a < b
  · rw [if_pos h1]
    go_enter Try.func13, Try.ntmps13
    go_wp2_with (first | (go_at_call 30; (with_reducible refine (HX.out _).mono ?_); rintro e w' ⟨rfl, rfl⟩) | (go_at_call 30; (with_reducible refine (HY.out _).mono ?_); rintro e w' ⟨rfl, rfl⟩))
    go_ret
    exact ⟨rfl, rfl⟩
  · rw [if_neg h1]
    by_cases h2 : b < a
    · rw [if_pos h2]
      go_enter Try.func13, Try.ntmps13
      go_wp2_with (first | (go_at_call 30; (with_reducible refine (HX.out _).mono ?_); rintro e w' ⟨rfl, rfl⟩) | (go_at_call 30; (with_reducible refine (HY.out _).mono ?_); rintro e w' ⟨rfl, rfl⟩))
      go_ret
      exact ⟨rfl, rfl⟩
    · rw [if_neg h2]
      go_enter Try.func13, Try.ntmps13
      go_wp2_with (first | (go_at_call 30; (with_reducible refine (HX.out _).mono ?_); rintro e w' ⟨rfl, rfl⟩) | (go_at_call 30; (with_reducible refine (HY.out _).mono ?_); rintro e w' ⟨rfl, rfl⟩))
      go_ret
      exact ⟨rfl, rfl⟩
attribute [local go_sem] max2_int min2_int max_two min_two
/-- how many bits a number has -/
def blen (n : Int) : Int := (Lib.bitLen (if n < 0 then 0 else n.toNat) : Int)
theorem bits_at (n : Int) (h0 : -9223372036854775808 ≤ n) (h1 : n < 9223372036854775808) (w : World) : Calls Try.prog 16 #[.int .i64 n] w fun e w' => e = .returned (.int .i64 (blen n)) ∧ w = w' := by
  by_cases h : n < 0
  · have hv : blen n = (Lib.bitLen (0 : Int).toNat : Int) := by unfold blen; rw [if_pos h]; rfl
    have HL := Aside0.mk (fun w => Try.bits_Len 0 w (by omega) (by omega))
    rw [hv]
    clear hv
    have hg : ¬ n > 0 := by omega
    go_enter Try.func16, Try.ntmps16
    go_wp2_with (go_at_call 34; (with_reducible refine (HL.out _).mono ?_); rintro e w' ⟨rfl, rfl⟩)
    go_ret
    exact ⟨rfl, rfl⟩
  · have hv : blen n = (Lib.bitLen n.toNat : Int) := by unfold blen; rw [if_neg h]
    have HL := Aside0.mk (fun w => Try.bits_Len n w (by omega) (by omega))
    rw [hv]
    clear hv
    have hw : IntKind.u64.wrap n = n := by rw [IntKind.wrap_u64]; omega
    go_enter Try.func16, Try.ntmps16
    go_wp2_with (go_at_call 34; (with_reducible refine (HL.out _).mono ?_); rintro e w' ⟨rfl, rfl⟩)
    go_ret
    exact ⟨rfl, rfl⟩
end Go.Proofs.Ytbgpdofbnifapaa.R
