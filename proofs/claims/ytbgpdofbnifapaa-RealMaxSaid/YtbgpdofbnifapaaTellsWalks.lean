/- By hand: the walks of the document's Order and Ticks, case by case (printed by tells_walks.py). -/
import Derived.Test.YtbgpdofbnifapaaTells
namespace Go.Proofs.Ytbgpdofbnifapaa.R
open Go.RowKit Go.Proofs.YtbgpdofbnifapaaW.PrintWords Go.Proofs.YtbgpdofbnifapaaW.PrintLast Go.Proofs.YtbgpdofbnifapaaW.PrintMore

set_option maxHeartbeats 1000000 in
theorem reforder_ny (x y : Nat) (w : World)
    (HPx : Aside0 (∀ w, Calls Try.prog 39 #[.float .f64 x] w fun e w' => e = .returned (.int .i64 0) ∧ w = w'))
    (HPy : Aside0 (∀ w, Calls Try.prog 39 #[.float .f64 y] w fun e w' => e = .returned (.int .i64 1) ∧ w = w')) :
    Calls Try.prog 24 #[.float .f64 x, .float .f64 y] w fun e w' => e = .returned (.int .i64 (-1)) ∧ w = w' := by
  go_enter Try.func24, Try.ntmps24
  go_wp2_with (first
    | (go_at_call 39; (with_reducible refine (HPx.out _).mono ?_); rintro e w' ⟨rfl, rfl⟩)
    | (go_at_call 39; (with_reducible refine (HPy.out _).mono ?_); rintro e w' ⟨rfl, rfl⟩))
  go_ret
  exact ⟨rfl, rfl⟩
set_option maxHeartbeats 1000000 in
theorem reforder_yn (x y : Nat) (w : World)
    (HPx : Aside0 (∀ w, Calls Try.prog 39 #[.float .f64 x] w fun e w' => e = .returned (.int .i64 1) ∧ w = w'))
    (HPy : Aside0 (∀ w, Calls Try.prog 39 #[.float .f64 y] w fun e w' => e = .returned (.int .i64 0) ∧ w = w')) :
    Calls Try.prog 24 #[.float .f64 x, .float .f64 y] w fun e w' => e = .returned (.int .i64 1) ∧ w = w' := by
  go_enter Try.func24, Try.ntmps24
  go_wp2_with (first
    | (go_at_call 39; (with_reducible refine (HPx.out _).mono ?_); rintro e w' ⟨rfl, rfl⟩)
    | (go_at_call 39; (with_reducible refine (HPy.out _).mono ?_); rintro e w' ⟨rfl, rfl⟩))
  go_ret
  exact ⟨rfl, rfl⟩
set_option maxHeartbeats 1000000 in
theorem reforder_nn (x y : Nat) (w : World)
    (HPx : Aside0 (∀ w, Calls Try.prog 39 #[.float .f64 x] w fun e w' => e = .returned (.int .i64 0) ∧ w = w'))
    (HPy : Aside0 (∀ w, Calls Try.prog 39 #[.float .f64 y] w fun e w' => e = .returned (.int .i64 0) ∧ w = w')) :
    Calls Try.prog 24 #[.float .f64 x, .float .f64 y] w fun e w' => e = .returned (.int .i64 0) ∧ w = w' := by
  go_enter Try.func24, Try.ntmps24
  go_wp2_with (first
    | (go_at_call 39; (with_reducible refine (HPx.out _).mono ?_); rintro e w' ⟨rfl, rfl⟩)
    | (go_at_call 39; (with_reducible refine (HPy.out _).mono ?_); rintro e w' ⟨rfl, rfl⟩))
  go_ret
  exact ⟨rfl, rfl⟩
set_option maxHeartbeats 1000000 in
theorem reforder_lt (x y : Nat) (w : World)
    (HPx : Aside0 (∀ w, Calls Try.prog 39 #[.float .f64 x] w fun e w' => e = .returned (.int .i64 1) ∧ w = w'))
    (HPy : Aside0 (∀ w, Calls Try.prog 39 #[.float .f64 y] w fun e w' => e = .returned (.int .i64 1) ∧ w = w'))
    (hl : (FloatKind.f64.format.order x y == some .lt) = true) :
    Calls Try.prog 24 #[.float .f64 x, .float .f64 y] w fun e w' => e = .returned (.int .i64 (-1)) ∧ w = w' := by
  go_enter Try.func24, Try.ntmps24
  go_wp2_with (first
    | (go_at_call 39; (with_reducible refine (HPx.out _).mono ?_); rintro e w' ⟨rfl, rfl⟩)
    | (go_at_call 39; (with_reducible refine (HPy.out _).mono ?_); rintro e w' ⟨rfl, rfl⟩))
  go_ret
  exact ⟨rfl, rfl⟩
set_option maxHeartbeats 1000000 in
theorem reforder_gt (x y : Nat) (w : World)
    (HPx : Aside0 (∀ w, Calls Try.prog 39 #[.float .f64 x] w fun e w' => e = .returned (.int .i64 1) ∧ w = w'))
    (HPy : Aside0 (∀ w, Calls Try.prog 39 #[.float .f64 y] w fun e w' => e = .returned (.int .i64 1) ∧ w = w'))
    (hl : (FloatKind.f64.format.order x y == some .lt) = false)
    (hg : (FloatKind.f64.format.order x y == some .gt) = true) :
    Calls Try.prog 24 #[.float .f64 x, .float .f64 y] w fun e w' => e = .returned (.int .i64 1) ∧ w = w' := by
  go_enter Try.func24, Try.ntmps24
  go_wp2_with (first
    | (go_at_call 39; (with_reducible refine (HPx.out _).mono ?_); rintro e w' ⟨rfl, rfl⟩)
    | (go_at_call 39; (with_reducible refine (HPy.out _).mono ?_); rintro e w' ⟨rfl, rfl⟩))
  go_ret
  exact ⟨rfl, rfl⟩
set_option maxHeartbeats 1000000 in
theorem reforder_s11 (x y : Nat) (w : World)
    (HPx : Aside0 (∀ w, Calls Try.prog 39 #[.float .f64 x] w fun e w' => e = .returned (.int .i64 1) ∧ w = w'))
    (HPy : Aside0 (∀ w, Calls Try.prog 39 #[.float .f64 y] w fun e w' => e = .returned (.int .i64 1) ∧ w = w'))
    (hl : (FloatKind.f64.format.order x y == some .lt) = false)
    (hg : (FloatKind.f64.format.order x y == some .gt) = false)
    (HSx : Aside0 (∀ w, Calls Try.prog 40 #[.float .f64 x] w fun e w' => e = .returned (.bool true) ∧ w = w'))
    (HSy : Aside0 (∀ w, Calls Try.prog 40 #[.float .f64 y] w fun e w' => e = .returned (.bool true) ∧ w = w')) :
    Calls Try.prog 24 #[.float .f64 x, .float .f64 y] w fun e w' => e = .returned (.int .i64 0) ∧ w = w' := by
  go_enter Try.func24, Try.ntmps24
  go_wp2_with (first
    | (go_at_call 39; (with_reducible refine (HPx.out _).mono ?_); rintro e w' ⟨rfl, rfl⟩)
    | (go_at_call 39; (with_reducible refine (HPy.out _).mono ?_); rintro e w' ⟨rfl, rfl⟩)
    | (go_at_call 40; (with_reducible refine (HSx.out _).mono ?_); rintro e w' ⟨rfl, rfl⟩)
    | (go_at_call 40; (with_reducible refine (HSy.out _).mono ?_); rintro e w' ⟨rfl, rfl⟩))
  go_ret
  exact ⟨rfl, rfl⟩
set_option maxHeartbeats 1000000 in
theorem reforder_s10 (x y : Nat) (w : World)
    (HPx : Aside0 (∀ w, Calls Try.prog 39 #[.float .f64 x] w fun e w' => e = .returned (.int .i64 1) ∧ w = w'))
    (HPy : Aside0 (∀ w, Calls Try.prog 39 #[.float .f64 y] w fun e w' => e = .returned (.int .i64 1) ∧ w = w'))
    (hl : (FloatKind.f64.format.order x y == some .lt) = false)
    (hg : (FloatKind.f64.format.order x y == some .gt) = false)
    (HSx : Aside0 (∀ w, Calls Try.prog 40 #[.float .f64 x] w fun e w' => e = .returned (.bool true) ∧ w = w'))
    (HSy : Aside0 (∀ w, Calls Try.prog 40 #[.float .f64 y] w fun e w' => e = .returned (.bool false) ∧ w = w')) :
    Calls Try.prog 24 #[.float .f64 x, .float .f64 y] w fun e w' => e = .returned (.int .i64 (-1)) ∧ w = w' := by
  go_enter Try.func24, Try.ntmps24
  go_wp2_with (first
    | (go_at_call 39; (with_reducible refine (HPx.out _).mono ?_); rintro e w' ⟨rfl, rfl⟩)
    | (go_at_call 39; (with_reducible refine (HPy.out _).mono ?_); rintro e w' ⟨rfl, rfl⟩)
    | (go_at_call 40; (with_reducible refine (HSx.out _).mono ?_); rintro e w' ⟨rfl, rfl⟩)
    | (go_at_call 40; (with_reducible refine (HSy.out _).mono ?_); rintro e w' ⟨rfl, rfl⟩))
  go_ret
  exact ⟨rfl, rfl⟩
set_option maxHeartbeats 1000000 in
theorem reforder_s01 (x y : Nat) (w : World)
    (HPx : Aside0 (∀ w, Calls Try.prog 39 #[.float .f64 x] w fun e w' => e = .returned (.int .i64 1) ∧ w = w'))
    (HPy : Aside0 (∀ w, Calls Try.prog 39 #[.float .f64 y] w fun e w' => e = .returned (.int .i64 1) ∧ w = w'))
    (hl : (FloatKind.f64.format.order x y == some .lt) = false)
    (hg : (FloatKind.f64.format.order x y == some .gt) = false)
    (HSx : Aside0 (∀ w, Calls Try.prog 40 #[.float .f64 x] w fun e w' => e = .returned (.bool false) ∧ w = w'))
    (HSy : Aside0 (∀ w, Calls Try.prog 40 #[.float .f64 y] w fun e w' => e = .returned (.bool true) ∧ w = w')) :
    Calls Try.prog 24 #[.float .f64 x, .float .f64 y] w fun e w' => e = .returned (.int .i64 1) ∧ w = w' := by
  go_enter Try.func24, Try.ntmps24
  go_wp2_with (first
    | (go_at_call 39; (with_reducible refine (HPx.out _).mono ?_); rintro e w' ⟨rfl, rfl⟩)
    | (go_at_call 39; (with_reducible refine (HPy.out _).mono ?_); rintro e w' ⟨rfl, rfl⟩)
    | (go_at_call 40; (with_reducible refine (HSx.out _).mono ?_); rintro e w' ⟨rfl, rfl⟩)
    | (go_at_call 40; (with_reducible refine (HSy.out _).mono ?_); rintro e w' ⟨rfl, rfl⟩))
  go_ret
  exact ⟨rfl, rfl⟩
set_option maxHeartbeats 1000000 in
theorem reforder_s00 (x y : Nat) (w : World)
    (HPx : Aside0 (∀ w, Calls Try.prog 39 #[.float .f64 x] w fun e w' => e = .returned (.int .i64 1) ∧ w = w'))
    (HPy : Aside0 (∀ w, Calls Try.prog 39 #[.float .f64 y] w fun e w' => e = .returned (.int .i64 1) ∧ w = w'))
    (hl : (FloatKind.f64.format.order x y == some .lt) = false)
    (hg : (FloatKind.f64.format.order x y == some .gt) = false)
    (HSx : Aside0 (∀ w, Calls Try.prog 40 #[.float .f64 x] w fun e w' => e = .returned (.bool false) ∧ w = w'))
    (HSy : Aside0 (∀ w, Calls Try.prog 40 #[.float .f64 y] w fun e w' => e = .returned (.bool false) ∧ w = w')) :
    Calls Try.prog 24 #[.float .f64 x, .float .f64 y] w fun e w' => e = .returned (.int .i64 0) ∧ w = w' := by
  go_enter Try.func24, Try.ntmps24
  go_wp2_with (first
    | (go_at_call 39; (with_reducible refine (HPx.out _).mono ?_); rintro e w' ⟨rfl, rfl⟩)
    | (go_at_call 39; (with_reducible refine (HPy.out _).mono ?_); rintro e w' ⟨rfl, rfl⟩)
    | (go_at_call 40; (with_reducible refine (HSx.out _).mono ?_); rintro e w' ⟨rfl, rfl⟩)
    | (go_at_call 40; (with_reducible refine (HSy.out _).mono ?_); rintro e w' ⟨rfl, rfl⟩))
  go_ret
  exact ⟨rfl, rfl⟩
set_option maxHeartbeats 1000000 in
theorem reftick_nan (x : Nat) (w : World)
    (hn : (FloatKind.f64.format.order x x != some .eq) = true) :
    Calls Try.prog 26 #[.float .f64 x] w fun e w' => e = .returned (.int .u64 0) ∧ w = w' := by
  go_enter Try.func26, Try.ntmps26
  go_wp2
  go_ret
  exact ⟨rfl, rfl⟩
set_option maxHeartbeats 1000000 in
theorem reftick_low (x : Nat) (w : World)
    (hn : (FloatKind.f64.format.order x x != some .eq) = false)
    (hz : (FloatKind.f64.format.order x 0 == some .lt || FloatKind.f64.format.order x 0 == some .eq) = true) :
    Calls Try.prog 26 #[.float .f64 x] w fun e w' => e = .returned (.int .u64 0) ∧ w = w' := by
  go_enter Try.func26, Try.ntmps26
  go_wp2
  go_ret
  exact ⟨rfl, rfl⟩
set_option maxHeartbeats 1000000 in
theorem reftick_high (x : Nat) (w : World)
    (hn : (FloatKind.f64.format.order x x != some .eq) = false)
    (hz : (FloatKind.f64.format.order x 0 == some .lt || FloatKind.f64.format.order x 0 == some .eq) = false)
    (hq : (FloatKind.f64.format.order x 4787326403894837248 == some .gt || FloatKind.f64.format.order x 4787326403894837248 == some .eq) = true) :
    Calls Try.prog 26 #[.float .f64 x] w fun e w' => e = .returned (.int .u64 1099511627776) ∧ w = w' := by
  go_enter Try.func26, Try.ntmps26
  go_wp2
  go_ret
  exact ⟨rfl, rfl⟩
set_option maxHeartbeats 1000000 in
theorem reftick_more (x : Nat) (f : Nat) (n : Int) (w : World)
    (hn : (FloatKind.f64.format.order x x != some .eq) = false)
    (hz : (FloatKind.f64.format.order x 0 == some .lt || FloatKind.f64.format.order x 0 == some .eq) = false)
    (hq : (FloatKind.f64.format.order x 4787326403894837248 == some .gt || FloatKind.f64.format.order x 4787326403894837248 == some .eq) = false)
    (hc : ∀ w, (convert 22 29 (.float .f64 x)).run Try.prog w = .ok (.int .u64 n) w)
    (hf : floatOfInt .f64 n = f)
    (ht : (FloatKind.f64.format.order f x == some .lt) = true)
    (hw : (n + 1) % 18446744073709551616 = n + 1) :
    Calls Try.prog 26 #[.float .f64 x] w fun e w' => e = .returned (.int .u64 (n + 1)) ∧ w = w' := by
  go_enter Try.func26, Try.ntmps26
  go_wp2
  go_ret
  exact ⟨rfl, rfl⟩
set_option maxHeartbeats 1000000 in
theorem reftick_just (x : Nat) (f : Nat) (n : Int) (w : World)
    (hn : (FloatKind.f64.format.order x x != some .eq) = false)
    (hz : (FloatKind.f64.format.order x 0 == some .lt || FloatKind.f64.format.order x 0 == some .eq) = false)
    (hq : (FloatKind.f64.format.order x 4787326403894837248 == some .gt || FloatKind.f64.format.order x 4787326403894837248 == some .eq) = false)
    (hc : ∀ w, (convert 22 29 (.float .f64 x)).run Try.prog w = .ok (.int .u64 n) w)
    (hf : floatOfInt .f64 n = f)
    (ht : (FloatKind.f64.format.order f x == some .lt) = false) :
    Calls Try.prog 26 #[.float .f64 x] w fun e w' => e = .returned (.int .u64 n) ∧ w = w' := by
  go_enter Try.func26, Try.ntmps26
  go_wp2
  go_ret
  exact ⟨rfl, rfl⟩
end Go.Proofs.Ytbgpdofbnifapaa.R
