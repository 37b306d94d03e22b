/- RealOrder, by hand: the law's walk, case by case (printed by order_cases.py). -/
import Derived.Test.YtbgpdofbnifapaaOrderWalk
namespace Go.Proofs.Ytbgpdofbnifapaa.R
open Go.RowKit Go.Proofs.YtbgpdofbnifapaaW.PrintWords Go.Proofs.YtbgpdofbnifapaaW.PrintLast Go.Proofs.YtbgpdofbnifapaaW.PrintMore

set_option maxHeartbeats 400000 in
theorem order_case0 (x y z : Nat) (w : World)
    (H1 : Aside0 (∀ w, Calls Try.prog 13 #[.float .f64 x, .float .f64 y] w fun e w' => e = .returned (.int .i64 (-1)) ∧ w = w'))
    (H2 : Aside0 (∀ w, Calls Try.prog 13 #[.float .f64 y, .float .f64 x] w fun e w' => e = .returned (.int .i64 (1)) ∧ w = w'))
    (H5 : Aside0 (∀ w, Calls Try.prog 13 #[.float .f64 x, .float .f64 x] w fun e w' => e = .returned (.int .i64 (0)) ∧ w = w'))
    (H3 : Aside0 (∀ w, Calls Try.prog 13 #[.float .f64 y, .float .f64 z] w fun e w' => e = .returned (.int .i64 (1)) ∧ w = w'))
    (HA : Aside0 (∀ w, Calls Try.prog 15 #[.float .f64 x, .float .f64 y] w fun e w' => e = .returned (.bool false) ∧ w = w'))
    (hl : (FloatKind.f64.format.order x y == some .lt) = true) (hg : (FloatKind.f64.format.order x y == some .gt) = false) :
    Calls Try.prog 3 #[.float .f64 x, .float .f64 y, .float .f64 z] w fun e w' => e = .returned (.bool true) ∧ w = w' := by
  have HS := Aside0.mk shown_at
  go_enter Try.func3, Try.ntmps3
  go_wp2_with (first
    | (go_at_call 13; (with_reducible refine (H1.out _).mono ?_); rintro e w' ⟨rfl, rfl⟩)
    | (go_at_call 13; (with_reducible refine (H2.out _).mono ?_); rintro e w' ⟨rfl, rfl⟩)
    | (go_at_call 13; (with_reducible refine (H5.out _).mono ?_); rintro e w' ⟨rfl, rfl⟩)
    | (go_at_call 13; (with_reducible refine (H3.out _).mono ?_); rintro e w' ⟨rfl, rfl⟩)
    | (go_at_call 14; (with_reducible refine (HS.out _).mono ?_); rintro e w' ⟨rfl, rfl⟩)
    | (go_at_call 15; (with_reducible refine (HA.out _).mono ?_); rintro e w' ⟨rfl, rfl⟩))
  go_ret
  exact ⟨rfl, rfl⟩
set_option maxHeartbeats 400000 in
theorem order_case1 (x y z : Nat) (w : World)
    (H1 : Aside0 (∀ w, Calls Try.prog 13 #[.float .f64 x, .float .f64 y] w fun e w' => e = .returned (.int .i64 (-1)) ∧ w = w'))
    (H2 : Aside0 (∀ w, Calls Try.prog 13 #[.float .f64 y, .float .f64 x] w fun e w' => e = .returned (.int .i64 (1)) ∧ w = w'))
    (H5 : Aside0 (∀ w, Calls Try.prog 13 #[.float .f64 x, .float .f64 x] w fun e w' => e = .returned (.int .i64 (0)) ∧ w = w'))
    (H3 : Aside0 (∀ w, Calls Try.prog 13 #[.float .f64 y, .float .f64 z] w fun e w' => e = .returned (.int .i64 (-1)) ∧ w = w'))
    (H4 : Aside0 (∀ w, Calls Try.prog 13 #[.float .f64 x, .float .f64 z] w fun e w' => e = .returned (.int .i64 (-1)) ∧ w = w'))
    (HA : Aside0 (∀ w, Calls Try.prog 15 #[.float .f64 x, .float .f64 y] w fun e w' => e = .returned (.bool false) ∧ w = w'))
    (hl : (FloatKind.f64.format.order x y == some .lt) = true) (hg : (FloatKind.f64.format.order x y == some .gt) = false) :
    Calls Try.prog 3 #[.float .f64 x, .float .f64 y, .float .f64 z] w fun e w' => e = .returned (.bool true) ∧ w = w' := by
  have HS := Aside0.mk shown_at
  go_enter Try.func3, Try.ntmps3
  go_wp2_with (first
    | (go_at_call 13; (with_reducible refine (H1.out _).mono ?_); rintro e w' ⟨rfl, rfl⟩)
    | (go_at_call 13; (with_reducible refine (H2.out _).mono ?_); rintro e w' ⟨rfl, rfl⟩)
    | (go_at_call 13; (with_reducible refine (H5.out _).mono ?_); rintro e w' ⟨rfl, rfl⟩)
    | (go_at_call 13; (with_reducible refine (H3.out _).mono ?_); rintro e w' ⟨rfl, rfl⟩)
    | (go_at_call 13; (with_reducible refine (H4.out _).mono ?_); rintro e w' ⟨rfl, rfl⟩)
    | (go_at_call 14; (with_reducible refine (HS.out _).mono ?_); rintro e w' ⟨rfl, rfl⟩)
    | (go_at_call 15; (with_reducible refine (HA.out _).mono ?_); rintro e w' ⟨rfl, rfl⟩))
  go_ret
  exact ⟨rfl, rfl⟩
set_option maxHeartbeats 400000 in
theorem order_case2 (x y z : Nat) (w : World)
    (H1 : Aside0 (∀ w, Calls Try.prog 13 #[.float .f64 x, .float .f64 y] w fun e w' => e = .returned (.int .i64 (-1)) ∧ w = w'))
    (H2 : Aside0 (∀ w, Calls Try.prog 13 #[.float .f64 y, .float .f64 x] w fun e w' => e = .returned (.int .i64 (1)) ∧ w = w'))
    (H5 : Aside0 (∀ w, Calls Try.prog 13 #[.float .f64 x, .float .f64 x] w fun e w' => e = .returned (.int .i64 (0)) ∧ w = w'))
    (H3 : Aside0 (∀ w, Calls Try.prog 13 #[.float .f64 y, .float .f64 z] w fun e w' => e = .returned (.int .i64 (0)) ∧ w = w'))
    (H4 : Aside0 (∀ w, Calls Try.prog 13 #[.float .f64 x, .float .f64 z] w fun e w' => e = .returned (.int .i64 (-1)) ∧ w = w'))
    (HA : Aside0 (∀ w, Calls Try.prog 15 #[.float .f64 x, .float .f64 y] w fun e w' => e = .returned (.bool false) ∧ w = w'))
    (hl : (FloatKind.f64.format.order x y == some .lt) = true) (hg : (FloatKind.f64.format.order x y == some .gt) = false) :
    Calls Try.prog 3 #[.float .f64 x, .float .f64 y, .float .f64 z] w fun e w' => e = .returned (.bool true) ∧ w = w' := by
  have HS := Aside0.mk shown_at
  go_enter Try.func3, Try.ntmps3
  go_wp2_with (first
    | (go_at_call 13; (with_reducible refine (H1.out _).mono ?_); rintro e w' ⟨rfl, rfl⟩)
    | (go_at_call 13; (with_reducible refine (H2.out _).mono ?_); rintro e w' ⟨rfl, rfl⟩)
    | (go_at_call 13; (with_reducible refine (H5.out _).mono ?_); rintro e w' ⟨rfl, rfl⟩)
    | (go_at_call 13; (with_reducible refine (H3.out _).mono ?_); rintro e w' ⟨rfl, rfl⟩)
    | (go_at_call 13; (with_reducible refine (H4.out _).mono ?_); rintro e w' ⟨rfl, rfl⟩)
    | (go_at_call 14; (with_reducible refine (HS.out _).mono ?_); rintro e w' ⟨rfl, rfl⟩)
    | (go_at_call 15; (with_reducible refine (HA.out _).mono ?_); rintro e w' ⟨rfl, rfl⟩))
  go_ret
  exact ⟨rfl, rfl⟩
set_option maxHeartbeats 400000 in
theorem order_case3 (x y z : Nat) (w : World)
    (H1 : Aside0 (∀ w, Calls Try.prog 13 #[.float .f64 x, .float .f64 y] w fun e w' => e = .returned (.int .i64 (-1)) ∧ w = w'))
    (H2 : Aside0 (∀ w, Calls Try.prog 13 #[.float .f64 y, .float .f64 x] w fun e w' => e = .returned (.int .i64 (1)) ∧ w = w'))
    (H5 : Aside0 (∀ w, Calls Try.prog 13 #[.float .f64 x, .float .f64 x] w fun e w' => e = .returned (.int .i64 (0)) ∧ w = w'))
    (H3 : Aside0 (∀ w, Calls Try.prog 13 #[.float .f64 y, .float .f64 z] w fun e w' => e = .returned (.int .i64 (1)) ∧ w = w'))
    (HA : Aside0 (∀ w, Calls Try.prog 15 #[.float .f64 x, .float .f64 y] w fun e w' => e = .returned (.bool false) ∧ w = w'))
    (hl : (FloatKind.f64.format.order x y == some .lt) = false) (hg : (FloatKind.f64.format.order x y == some .gt) = false) :
    Calls Try.prog 3 #[.float .f64 x, .float .f64 y, .float .f64 z] w fun e w' => e = .returned (.bool true) ∧ w = w' := by
  have HS := Aside0.mk shown_at
  go_enter Try.func3, Try.ntmps3
  go_wp2_with (first
    | (go_at_call 13; (with_reducible refine (H1.out _).mono ?_); rintro e w' ⟨rfl, rfl⟩)
    | (go_at_call 13; (with_reducible refine (H2.out _).mono ?_); rintro e w' ⟨rfl, rfl⟩)
    | (go_at_call 13; (with_reducible refine (H5.out _).mono ?_); rintro e w' ⟨rfl, rfl⟩)
    | (go_at_call 13; (with_reducible refine (H3.out _).mono ?_); rintro e w' ⟨rfl, rfl⟩)
    | (go_at_call 14; (with_reducible refine (HS.out _).mono ?_); rintro e w' ⟨rfl, rfl⟩)
    | (go_at_call 15; (with_reducible refine (HA.out _).mono ?_); rintro e w' ⟨rfl, rfl⟩))
  go_ret
  exact ⟨rfl, rfl⟩
set_option maxHeartbeats 400000 in
theorem order_case4 (x y z : Nat) (w : World)
    (H1 : Aside0 (∀ w, Calls Try.prog 13 #[.float .f64 x, .float .f64 y] w fun e w' => e = .returned (.int .i64 (-1)) ∧ w = w'))
    (H2 : Aside0 (∀ w, Calls Try.prog 13 #[.float .f64 y, .float .f64 x] w fun e w' => e = .returned (.int .i64 (1)) ∧ w = w'))
    (H5 : Aside0 (∀ w, Calls Try.prog 13 #[.float .f64 x, .float .f64 x] w fun e w' => e = .returned (.int .i64 (0)) ∧ w = w'))
    (H3 : Aside0 (∀ w, Calls Try.prog 13 #[.float .f64 y, .float .f64 z] w fun e w' => e = .returned (.int .i64 (-1)) ∧ w = w'))
    (H4 : Aside0 (∀ w, Calls Try.prog 13 #[.float .f64 x, .float .f64 z] w fun e w' => e = .returned (.int .i64 (-1)) ∧ w = w'))
    (HA : Aside0 (∀ w, Calls Try.prog 15 #[.float .f64 x, .float .f64 y] w fun e w' => e = .returned (.bool false) ∧ w = w'))
    (hl : (FloatKind.f64.format.order x y == some .lt) = false) (hg : (FloatKind.f64.format.order x y == some .gt) = false) :
    Calls Try.prog 3 #[.float .f64 x, .float .f64 y, .float .f64 z] w fun e w' => e = .returned (.bool true) ∧ w = w' := by
  have HS := Aside0.mk shown_at
  go_enter Try.func3, Try.ntmps3
  go_wp2_with (first
    | (go_at_call 13; (with_reducible refine (H1.out _).mono ?_); rintro e w' ⟨rfl, rfl⟩)
    | (go_at_call 13; (with_reducible refine (H2.out _).mono ?_); rintro e w' ⟨rfl, rfl⟩)
    | (go_at_call 13; (with_reducible refine (H5.out _).mono ?_); rintro e w' ⟨rfl, rfl⟩)
    | (go_at_call 13; (with_reducible refine (H3.out _).mono ?_); rintro e w' ⟨rfl, rfl⟩)
    | (go_at_call 13; (with_reducible refine (H4.out _).mono ?_); rintro e w' ⟨rfl, rfl⟩)
    | (go_at_call 14; (with_reducible refine (HS.out _).mono ?_); rintro e w' ⟨rfl, rfl⟩)
    | (go_at_call 15; (with_reducible refine (HA.out _).mono ?_); rintro e w' ⟨rfl, rfl⟩))
  go_ret
  exact ⟨rfl, rfl⟩
set_option maxHeartbeats 400000 in
theorem order_case5 (x y z : Nat) (w : World)
    (H1 : Aside0 (∀ w, Calls Try.prog 13 #[.float .f64 x, .float .f64 y] w fun e w' => e = .returned (.int .i64 (-1)) ∧ w = w'))
    (H2 : Aside0 (∀ w, Calls Try.prog 13 #[.float .f64 y, .float .f64 x] w fun e w' => e = .returned (.int .i64 (1)) ∧ w = w'))
    (H5 : Aside0 (∀ w, Calls Try.prog 13 #[.float .f64 x, .float .f64 x] w fun e w' => e = .returned (.int .i64 (0)) ∧ w = w'))
    (H3 : Aside0 (∀ w, Calls Try.prog 13 #[.float .f64 y, .float .f64 z] w fun e w' => e = .returned (.int .i64 (0)) ∧ w = w'))
    (H4 : Aside0 (∀ w, Calls Try.prog 13 #[.float .f64 x, .float .f64 z] w fun e w' => e = .returned (.int .i64 (-1)) ∧ w = w'))
    (HA : Aside0 (∀ w, Calls Try.prog 15 #[.float .f64 x, .float .f64 y] w fun e w' => e = .returned (.bool false) ∧ w = w'))
    (hl : (FloatKind.f64.format.order x y == some .lt) = false) (hg : (FloatKind.f64.format.order x y == some .gt) = false) :
    Calls Try.prog 3 #[.float .f64 x, .float .f64 y, .float .f64 z] w fun e w' => e = .returned (.bool true) ∧ w = w' := by
  have HS := Aside0.mk shown_at
  go_enter Try.func3, Try.ntmps3
  go_wp2_with (first
    | (go_at_call 13; (with_reducible refine (H1.out _).mono ?_); rintro e w' ⟨rfl, rfl⟩)
    | (go_at_call 13; (with_reducible refine (H2.out _).mono ?_); rintro e w' ⟨rfl, rfl⟩)
    | (go_at_call 13; (with_reducible refine (H5.out _).mono ?_); rintro e w' ⟨rfl, rfl⟩)
    | (go_at_call 13; (with_reducible refine (H3.out _).mono ?_); rintro e w' ⟨rfl, rfl⟩)
    | (go_at_call 13; (with_reducible refine (H4.out _).mono ?_); rintro e w' ⟨rfl, rfl⟩)
    | (go_at_call 14; (with_reducible refine (HS.out _).mono ?_); rintro e w' ⟨rfl, rfl⟩)
    | (go_at_call 15; (with_reducible refine (HA.out _).mono ?_); rintro e w' ⟨rfl, rfl⟩))
  go_ret
  exact ⟨rfl, rfl⟩
set_option maxHeartbeats 400000 in
theorem order_case6 (x y z : Nat) (w : World)
    (H1 : Aside0 (∀ w, Calls Try.prog 13 #[.float .f64 x, .float .f64 y] w fun e w' => e = .returned (.int .i64 (0)) ∧ w = w'))
    (H2 : Aside0 (∀ w, Calls Try.prog 13 #[.float .f64 y, .float .f64 x] w fun e w' => e = .returned (.int .i64 (0)) ∧ w = w'))
    (H5 : Aside0 (∀ w, Calls Try.prog 13 #[.float .f64 x, .float .f64 x] w fun e w' => e = .returned (.int .i64 (0)) ∧ w = w'))
    (H3 : Aside0 (∀ w, Calls Try.prog 13 #[.float .f64 y, .float .f64 z] w fun e w' => e = .returned (.int .i64 (1)) ∧ w = w'))
    (HA : Aside0 (∀ w, Calls Try.prog 15 #[.float .f64 x, .float .f64 y] w fun e w' => e = .returned (.bool true) ∧ w = w'))
    (hl : (FloatKind.f64.format.order x y == some .lt) = false) (hg : (FloatKind.f64.format.order x y == some .gt) = false) :
    Calls Try.prog 3 #[.float .f64 x, .float .f64 y, .float .f64 z] w fun e w' => e = .returned (.bool true) ∧ w = w' := by
  have HS := Aside0.mk shown_at
  go_enter Try.func3, Try.ntmps3
  go_wp2_with (first
    | (go_at_call 13; (with_reducible refine (H1.out _).mono ?_); rintro e w' ⟨rfl, rfl⟩)
    | (go_at_call 13; (with_reducible refine (H2.out _).mono ?_); rintro e w' ⟨rfl, rfl⟩)
    | (go_at_call 13; (with_reducible refine (H5.out _).mono ?_); rintro e w' ⟨rfl, rfl⟩)
    | (go_at_call 13; (with_reducible refine (H3.out _).mono ?_); rintro e w' ⟨rfl, rfl⟩)
    | (go_at_call 14; (with_reducible refine (HS.out _).mono ?_); rintro e w' ⟨rfl, rfl⟩)
    | (go_at_call 15; (with_reducible refine (HA.out _).mono ?_); rintro e w' ⟨rfl, rfl⟩))
  go_ret
  exact ⟨rfl, rfl⟩
set_option maxHeartbeats 400000 in
theorem order_case7 (x y z : Nat) (w : World)
    (H1 : Aside0 (∀ w, Calls Try.prog 13 #[.float .f64 x, .float .f64 y] w fun e w' => e = .returned (.int .i64 (0)) ∧ w = w'))
    (H2 : Aside0 (∀ w, Calls Try.prog 13 #[.float .f64 y, .float .f64 x] w fun e w' => e = .returned (.int .i64 (0)) ∧ w = w'))
    (H5 : Aside0 (∀ w, Calls Try.prog 13 #[.float .f64 x, .float .f64 x] w fun e w' => e = .returned (.int .i64 (0)) ∧ w = w'))
    (H3 : Aside0 (∀ w, Calls Try.prog 13 #[.float .f64 y, .float .f64 z] w fun e w' => e = .returned (.int .i64 (-1)) ∧ w = w'))
    (H4 : Aside0 (∀ w, Calls Try.prog 13 #[.float .f64 x, .float .f64 z] w fun e w' => e = .returned (.int .i64 (-1)) ∧ w = w'))
    (HA : Aside0 (∀ w, Calls Try.prog 15 #[.float .f64 x, .float .f64 y] w fun e w' => e = .returned (.bool true) ∧ w = w'))
    (hl : (FloatKind.f64.format.order x y == some .lt) = false) (hg : (FloatKind.f64.format.order x y == some .gt) = false) :
    Calls Try.prog 3 #[.float .f64 x, .float .f64 y, .float .f64 z] w fun e w' => e = .returned (.bool true) ∧ w = w' := by
  have HS := Aside0.mk shown_at
  go_enter Try.func3, Try.ntmps3
  go_wp2_with (first
    | (go_at_call 13; (with_reducible refine (H1.out _).mono ?_); rintro e w' ⟨rfl, rfl⟩)
    | (go_at_call 13; (with_reducible refine (H2.out _).mono ?_); rintro e w' ⟨rfl, rfl⟩)
    | (go_at_call 13; (with_reducible refine (H5.out _).mono ?_); rintro e w' ⟨rfl, rfl⟩)
    | (go_at_call 13; (with_reducible refine (H3.out _).mono ?_); rintro e w' ⟨rfl, rfl⟩)
    | (go_at_call 13; (with_reducible refine (H4.out _).mono ?_); rintro e w' ⟨rfl, rfl⟩)
    | (go_at_call 14; (with_reducible refine (HS.out _).mono ?_); rintro e w' ⟨rfl, rfl⟩)
    | (go_at_call 15; (with_reducible refine (HA.out _).mono ?_); rintro e w' ⟨rfl, rfl⟩))
  go_ret
  exact ⟨rfl, rfl⟩
set_option maxHeartbeats 400000 in
theorem order_case8 (x y z : Nat) (w : World)
    (H1 : Aside0 (∀ w, Calls Try.prog 13 #[.float .f64 x, .float .f64 y] w fun e w' => e = .returned (.int .i64 (0)) ∧ w = w'))
    (H2 : Aside0 (∀ w, Calls Try.prog 13 #[.float .f64 y, .float .f64 x] w fun e w' => e = .returned (.int .i64 (0)) ∧ w = w'))
    (H5 : Aside0 (∀ w, Calls Try.prog 13 #[.float .f64 x, .float .f64 x] w fun e w' => e = .returned (.int .i64 (0)) ∧ w = w'))
    (H3 : Aside0 (∀ w, Calls Try.prog 13 #[.float .f64 y, .float .f64 z] w fun e w' => e = .returned (.int .i64 (0)) ∧ w = w'))
    (H4 : Aside0 (∀ w, Calls Try.prog 13 #[.float .f64 x, .float .f64 z] w fun e w' => e = .returned (.int .i64 (0)) ∧ w = w'))
    (HA : Aside0 (∀ w, Calls Try.prog 15 #[.float .f64 x, .float .f64 y] w fun e w' => e = .returned (.bool true) ∧ w = w'))
    (hl : (FloatKind.f64.format.order x y == some .lt) = false) (hg : (FloatKind.f64.format.order x y == some .gt) = false) :
    Calls Try.prog 3 #[.float .f64 x, .float .f64 y, .float .f64 z] w fun e w' => e = .returned (.bool true) ∧ w = w' := by
  have HS := Aside0.mk shown_at
  go_enter Try.func3, Try.ntmps3
  go_wp2_with (first
    | (go_at_call 13; (with_reducible refine (H1.out _).mono ?_); rintro e w' ⟨rfl, rfl⟩)
    | (go_at_call 13; (with_reducible refine (H2.out _).mono ?_); rintro e w' ⟨rfl, rfl⟩)
    | (go_at_call 13; (with_reducible refine (H5.out _).mono ?_); rintro e w' ⟨rfl, rfl⟩)
    | (go_at_call 13; (with_reducible refine (H3.out _).mono ?_); rintro e w' ⟨rfl, rfl⟩)
    | (go_at_call 13; (with_reducible refine (H4.out _).mono ?_); rintro e w' ⟨rfl, rfl⟩)
    | (go_at_call 14; (with_reducible refine (HS.out _).mono ?_); rintro e w' ⟨rfl, rfl⟩)
    | (go_at_call 15; (with_reducible refine (HA.out _).mono ?_); rintro e w' ⟨rfl, rfl⟩))
  go_ret
  exact ⟨rfl, rfl⟩
set_option maxHeartbeats 400000 in
theorem order_case9 (x y z : Nat) (w : World)
    (H1 : Aside0 (∀ w, Calls Try.prog 13 #[.float .f64 x, .float .f64 y] w fun e w' => e = .returned (.int .i64 (1)) ∧ w = w'))
    (H2 : Aside0 (∀ w, Calls Try.prog 13 #[.float .f64 y, .float .f64 x] w fun e w' => e = .returned (.int .i64 (-1)) ∧ w = w'))
    (H5 : Aside0 (∀ w, Calls Try.prog 13 #[.float .f64 x, .float .f64 x] w fun e w' => e = .returned (.int .i64 (0)) ∧ w = w'))
    (HA : Aside0 (∀ w, Calls Try.prog 15 #[.float .f64 x, .float .f64 y] w fun e w' => e = .returned (.bool false) ∧ w = w'))
    (hl : (FloatKind.f64.format.order x y == some .lt) = false) (hg : (FloatKind.f64.format.order x y == some .gt) = true) :
    Calls Try.prog 3 #[.float .f64 x, .float .f64 y, .float .f64 z] w fun e w' => e = .returned (.bool true) ∧ w = w' := by
  have HS := Aside0.mk shown_at
  go_enter Try.func3, Try.ntmps3
  go_wp2_with (first
    | (go_at_call 13; (with_reducible refine (H1.out _).mono ?_); rintro e w' ⟨rfl, rfl⟩)
    | (go_at_call 13; (with_reducible refine (H2.out _).mono ?_); rintro e w' ⟨rfl, rfl⟩)
    | (go_at_call 13; (with_reducible refine (H5.out _).mono ?_); rintro e w' ⟨rfl, rfl⟩)
    | (go_at_call 14; (with_reducible refine (HS.out _).mono ?_); rintro e w' ⟨rfl, rfl⟩)
    | (go_at_call 15; (with_reducible refine (HA.out _).mono ?_); rintro e w' ⟨rfl, rfl⟩))
  go_ret
  exact ⟨rfl, rfl⟩
set_option maxHeartbeats 400000 in
theorem order_case10 (x y z : Nat) (w : World)
    (H1 : Aside0 (∀ w, Calls Try.prog 13 #[.float .f64 x, .float .f64 y] w fun e w' => e = .returned (.int .i64 (1)) ∧ w = w'))
    (H2 : Aside0 (∀ w, Calls Try.prog 13 #[.float .f64 y, .float .f64 x] w fun e w' => e = .returned (.int .i64 (-1)) ∧ w = w'))
    (H5 : Aside0 (∀ w, Calls Try.prog 13 #[.float .f64 x, .float .f64 x] w fun e w' => e = .returned (.int .i64 (0)) ∧ w = w'))
    (HA : Aside0 (∀ w, Calls Try.prog 15 #[.float .f64 x, .float .f64 y] w fun e w' => e = .returned (.bool false) ∧ w = w'))
    (hl : (FloatKind.f64.format.order x y == some .lt) = false) (hg : (FloatKind.f64.format.order x y == some .gt) = false) :
    Calls Try.prog 3 #[.float .f64 x, .float .f64 y, .float .f64 z] w fun e w' => e = .returned (.bool true) ∧ w = w' := by
  have HS := Aside0.mk shown_at
  go_enter Try.func3, Try.ntmps3
  go_wp2_with (first
    | (go_at_call 13; (with_reducible refine (H1.out _).mono ?_); rintro e w' ⟨rfl, rfl⟩)
    | (go_at_call 13; (with_reducible refine (H2.out _).mono ?_); rintro e w' ⟨rfl, rfl⟩)
    | (go_at_call 13; (with_reducible refine (H5.out _).mono ?_); rintro e w' ⟨rfl, rfl⟩)
    | (go_at_call 14; (with_reducible refine (HS.out _).mono ?_); rintro e w' ⟨rfl, rfl⟩)
    | (go_at_call 15; (with_reducible refine (HA.out _).mono ?_); rintro e w' ⟨rfl, rfl⟩))
  go_ret
  exact ⟨rfl, rfl⟩
end Go.Proofs.Ytbgpdofbnifapaa.R
