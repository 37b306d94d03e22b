/- By hand: the walks of Blend, case by case (printed by blend_walks.py). -/
import Derived.Test.YtbgpdofbnifapaaBlend
import Derived.Test.YtbgpdofbnifapaaRefClean
namespace Go.Proofs.Ytbgpdofbnifapaa.R
open Go.RowKit Go.Proofs.YtbgpdofbnifapaaW.PrintWords Go.Proofs.YtbgpdofbnifapaaW.PrintLast Go.Proofs.YtbgpdofbnifapaaW.PrintMore
open Flt (nan num rung low sgn)

set_option maxHeartbeats 1000000 in
set_option linter.unusedVariables false in
theorem blend_p1 (old x part p : Nat) (w w1 : World)
    (HC : Aside0 (∀ w, Calls Try.prog 18 #[.float .f64 part, .float .f64 0, .float .f64 4607182418800017408] w fun e w' => e = .returned (.float .f64 p) ∧ w = w'))
    (HN_x : Aside0 (∀ w, Calls Try.prog 36 #[.float .f64 x] w fun e w' => e = .returned (.bool true) ∧ w = w')) :
    Calls Try.prog 23 #[.float .f64 old, .float .f64 x, .float .f64 part] w fun e w' => e = .returned (.float .f64 old) ∧ w' = w := by
  go_enter Try.func23, Try.ntmps23
  go_wp2_with (first
    | (go_at_call 18; (with_reducible refine (HC.out _).mono ?_); rintro e w' ⟨rfl, rfl⟩)
    | (go_at_call 36; (with_reducible refine (HN_x.out _).mono ?_); rintro e w' ⟨rfl, rfl⟩))
  go_ret
  exact ⟨rfl, rfl⟩
set_option maxHeartbeats 1000000 in
set_option linter.unusedVariables false in
theorem blend_p2 (old x part p : Nat) (w w1 : World)
    (HC : Aside0 (∀ w, Calls Try.prog 18 #[.float .f64 part, .float .f64 0, .float .f64 4607182418800017408] w fun e w' => e = .returned (.float .f64 p) ∧ w = w'))
    (HN_x : Aside0 (∀ w, Calls Try.prog 36 #[.float .f64 x] w fun e w' => e = .returned (.bool false) ∧ w = w'))
    (HN_old : Aside0 (∀ w, Calls Try.prog 36 #[.float .f64 old] w fun e w' => e = .returned (.bool true) ∧ w = w')) :
    Calls Try.prog 23 #[.float .f64 old, .float .f64 x, .float .f64 part] w fun e w' => e = .returned (.float .f64 x) ∧ w' = w := by
  go_enter Try.func23, Try.ntmps23
  go_wp2_with (first
    | (go_at_call 18; (with_reducible refine (HC.out _).mono ?_); rintro e w' ⟨rfl, rfl⟩)
    | (go_at_call 36; (with_reducible refine (HN_x.out _).mono ?_); rintro e w' ⟨rfl, rfl⟩)
    | (go_at_call 36; (with_reducible refine (HN_old.out _).mono ?_); rintro e w' ⟨rfl, rfl⟩))
  go_ret
  exact ⟨rfl, rfl⟩
set_option maxHeartbeats 1000000 in
set_option linter.unusedVariables false in
theorem blend_p3 (old x part p : Nat) (w w1 : World)
    (HC : Aside0 (∀ w, Calls Try.prog 18 #[.float .f64 part, .float .f64 0, .float .f64 4607182418800017408] w fun e w' => e = .returned (.float .f64 p) ∧ w = w'))
    (HN_x : Aside0 (∀ w, Calls Try.prog 36 #[.float .f64 x] w fun e w' => e = .returned (.bool false) ∧ w = w'))
    (HN_old : Aside0 (∀ w, Calls Try.prog 36 #[.float .f64 old] w fun e w' => e = .returned (.bool false) ∧ w = w'))
    (p1 : (FloatKind.f64.format.order p 4607182418800017408 == some .eq) = true) :
    Calls Try.prog 23 #[.float .f64 old, .float .f64 x, .float .f64 part] w fun e w' => e = .returned (.float .f64 x) ∧ w' = w := by
  go_enter Try.func23, Try.ntmps23
  go_wp2_with (first
    | (go_at_call 18; (with_reducible refine (HC.out _).mono ?_); rintro e w' ⟨rfl, rfl⟩)
    | (go_at_call 36; (with_reducible refine (HN_x.out _).mono ?_); rintro e w' ⟨rfl, rfl⟩)
    | (go_at_call 36; (with_reducible refine (HN_old.out _).mono ?_); rintro e w' ⟨rfl, rfl⟩))
  go_ret
  exact ⟨rfl, rfl⟩
set_option maxHeartbeats 1000000 in
set_option linter.unusedVariables false in
theorem blend_p4 (old x part p : Nat) (w w1 : World)
    (HC : Aside0 (∀ w, Calls Try.prog 18 #[.float .f64 part, .float .f64 0, .float .f64 4607182418800017408] w fun e w' => e = .returned (.float .f64 p) ∧ w = w'))
    (HN_x : Aside0 (∀ w, Calls Try.prog 36 #[.float .f64 x] w fun e w' => e = .returned (.bool false) ∧ w = w'))
    (HN_old : Aside0 (∀ w, Calls Try.prog 36 #[.float .f64 old] w fun e w' => e = .returned (.bool false) ∧ w = w'))
    (p1 : (FloatKind.f64.format.order p 4607182418800017408 == some .eq) = false)
    (p0 : (FloatKind.f64.format.order p 0 == some .eq) = true) :
    Calls Try.prog 23 #[.float .f64 old, .float .f64 x, .float .f64 part] w fun e w' => e = .returned (.float .f64 old) ∧ w' = w := by
  go_enter Try.func23, Try.ntmps23
  go_wp2_with (first
    | (go_at_call 18; (with_reducible refine (HC.out _).mono ?_); rintro e w' ⟨rfl, rfl⟩)
    | (go_at_call 36; (with_reducible refine (HN_x.out _).mono ?_); rintro e w' ⟨rfl, rfl⟩)
    | (go_at_call 36; (with_reducible refine (HN_old.out _).mono ?_); rintro e w' ⟨rfl, rfl⟩))
  go_ret
  exact ⟨rfl, rfl⟩
set_option maxHeartbeats 1000000 in
set_option linter.unusedVariables false in
theorem blend_p5 (old x part p u q v s : Nat) (w w1 : World)
    (HC : Aside0 (∀ w, Calls Try.prog 18 #[.float .f64 part, .float .f64 0, .float .f64 4607182418800017408] w fun e w' => e = .returned (.float .f64 p) ∧ w = w'))
    (HN_x : Aside0 (∀ w, Calls Try.prog 36 #[.float .f64 x] w fun e w' => e = .returned (.bool false) ∧ w = w'))
    (HN_old : Aside0 (∀ w, Calls Try.prog 36 #[.float .f64 old] w fun e w' => e = .returned (.bool false) ∧ w = w'))
    (p1 : (FloatKind.f64.format.order p 4607182418800017408 == some .eq) = false)
    (p0 : (FloatKind.f64.format.order p 0 == some .eq) = false)
    (HS1 : Aside0 (∀ w, Calls Try.prog 38 #[.float .f64 p, .float .f64 x] w fun e w' => e = .returned (.float .f64 u) ∧ w = w'))
    (HS2 : Aside0 (∀ w, Calls Try.prog 38 #[.float .f64 q, .float .f64 old] w fun e w' => e = .returned (.float .f64 v) ∧ w = w'))
    (hsub : ∀ t w, (binOp .sub t (.float .f64 4607182418800017408) (.float .f64 p)).run Try.prog w = .ok (.float .f64 q) w)
    (hadd : ∀ t w, (binOp .add t (.float .f64 u) (.float .f64 v)).run Try.prog w = .ok (.float .f64 s) w)
    (HN_s : Aside0 (∀ w, Calls Try.prog 36 #[.float .f64 s] w fun e w' => e = .returned (.bool false) ∧ w = w')) :
    Calls Try.prog 23 #[.float .f64 old, .float .f64 x, .float .f64 part] w fun e w' => e = .returned (.float .f64 s) ∧ w' = w := by
  go_enter Try.func23, Try.ntmps23
  go_wp2_with (first
    | (go_at_call 18; (with_reducible refine (HC.out _).mono ?_); rintro e w' ⟨rfl, rfl⟩)
    | (go_at_call 36; (with_reducible refine (HN_x.out _).mono ?_); rintro e w' ⟨rfl, rfl⟩)
    | (go_at_call 36; (with_reducible refine (HN_old.out _).mono ?_); rintro e w' ⟨rfl, rfl⟩)
    | (go_at_call 36; (with_reducible refine (HN_s.out _).mono ?_); rintro e w' ⟨rfl, rfl⟩)
    | (go_at_call 38; (with_reducible refine (HS1.out _).mono ?_); rintro e w' ⟨rfl, rfl⟩)
    | (go_at_call 38; (with_reducible refine (HS2.out _).mono ?_); rintro e w' ⟨rfl, rfl⟩))
  go_ret
  exact ⟨rfl, rfl⟩
set_option maxHeartbeats 1000000 in
set_option linter.unusedVariables false in
theorem blend_p6 (old x part p u q v s : Nat) (w w1 : World)
    (HC : Aside0 (∀ w, Calls Try.prog 18 #[.float .f64 part, .float .f64 0, .float .f64 4607182418800017408] w fun e w' => e = .returned (.float .f64 p) ∧ w = w'))
    (HN_x : Aside0 (∀ w, Calls Try.prog 36 #[.float .f64 x] w fun e w' => e = .returned (.bool false) ∧ w = w'))
    (HN_old : Aside0 (∀ w, Calls Try.prog 36 #[.float .f64 old] w fun e w' => e = .returned (.bool false) ∧ w = w'))
    (p1 : (FloatKind.f64.format.order p 4607182418800017408 == some .eq) = false)
    (p0 : (FloatKind.f64.format.order p 0 == some .eq) = false)
    (HS1 : Aside0 (∀ w, Calls Try.prog 38 #[.float .f64 p, .float .f64 x] w fun e w' => e = .returned (.float .f64 u) ∧ w = w'))
    (HS2 : Aside0 (∀ w, Calls Try.prog 38 #[.float .f64 q, .float .f64 old] w fun e w' => e = .returned (.float .f64 v) ∧ w = w'))
    (hsub : ∀ t w, (binOp .sub t (.float .f64 4607182418800017408) (.float .f64 p)).run Try.prog w = .ok (.float .f64 q) w)
    (hadd : (binOp .add 22 (.float .f64 u) (.float .f64 v)).run Try.prog w = .ok (.float .f64 s) w1)
    (HN_s : Aside0 (∀ w, Calls Try.prog 36 #[.float .f64 s] w fun e w' => e = .returned (.bool true) ∧ w = w')) :
    Calls Try.prog 23 #[.float .f64 old, .float .f64 x, .float .f64 part] w fun e w' => e = .returned (.float .f64 0) ∧ w' = w1 := by
  go_enter Try.func23, Try.ntmps23
  go_wp2_with (first
    | (go_at_call 18; (with_reducible refine (HC.out _).mono ?_); rintro e w' ⟨rfl, rfl⟩)
    | (go_at_call 36; (with_reducible refine (HN_x.out _).mono ?_); rintro e w' ⟨rfl, rfl⟩)
    | (go_at_call 36; (with_reducible refine (HN_old.out _).mono ?_); rintro e w' ⟨rfl, rfl⟩)
    | (go_at_call 36; (with_reducible refine (HN_s.out _).mono ?_); rintro e w' ⟨rfl, rfl⟩)
    | (go_at_call 38; (with_reducible refine (HS1.out _).mono ?_); rintro e w' ⟨rfl, rfl⟩)
    | (go_at_call 38; (with_reducible refine (HS2.out _).mono ?_); rintro e w' ⟨rfl, rfl⟩))
  go_ret
  exact ⟨rfl, rfl⟩
set_option maxHeartbeats 1000000 in
set_option linter.unusedVariables false in
theorem blend_d1 (old x part p : Nat) (w w1 : World)
    (HC : Aside0 (∀ w, Calls Try.prog 22 #[.float .f64 part, .float .f64 0, .float .f64 4607182418800017408] w fun e w' => e = .returned (.float .f64 p) ∧ w = w'))
    (HN_x : (FloatKind.f64.format.order x x != some .eq) = true) :
    Calls Try.prog 25 #[.float .f64 old, .float .f64 x, .float .f64 part] w fun e w' => e = .returned (.float .f64 old) ∧ w' = w := by
  go_enter Try.func25, Try.ntmps25
  go_wp2_with (first
    | (go_at_call 22; (with_reducible refine (HC.out _).mono ?_); rintro e w' ⟨rfl, rfl⟩))
  go_ret
  exact ⟨rfl, rfl⟩
set_option maxHeartbeats 1000000 in
set_option linter.unusedVariables false in
theorem blend_d2 (old x part p : Nat) (w w1 : World)
    (HC : Aside0 (∀ w, Calls Try.prog 22 #[.float .f64 part, .float .f64 0, .float .f64 4607182418800017408] w fun e w' => e = .returned (.float .f64 p) ∧ w = w'))
    (HN_x : (FloatKind.f64.format.order x x != some .eq) = false)
    (HN_old : (FloatKind.f64.format.order old old != some .eq) = true) :
    Calls Try.prog 25 #[.float .f64 old, .float .f64 x, .float .f64 part] w fun e w' => e = .returned (.float .f64 x) ∧ w' = w := by
  go_enter Try.func25, Try.ntmps25
  go_wp2_with (first
    | (go_at_call 22; (with_reducible refine (HC.out _).mono ?_); rintro e w' ⟨rfl, rfl⟩))
  go_ret
  exact ⟨rfl, rfl⟩
set_option maxHeartbeats 1000000 in
set_option linter.unusedVariables false in
theorem blend_d3 (old x part p : Nat) (w w1 : World)
    (HC : Aside0 (∀ w, Calls Try.prog 22 #[.float .f64 part, .float .f64 0, .float .f64 4607182418800017408] w fun e w' => e = .returned (.float .f64 p) ∧ w = w'))
    (HN_x : (FloatKind.f64.format.order x x != some .eq) = false)
    (HN_old : (FloatKind.f64.format.order old old != some .eq) = false)
    (p1 : (FloatKind.f64.format.order p 4607182418800017408 == some .eq) = true) :
    Calls Try.prog 25 #[.float .f64 old, .float .f64 x, .float .f64 part] w fun e w' => e = .returned (.float .f64 x) ∧ w' = w := by
  go_enter Try.func25, Try.ntmps25
  go_wp2_with (first
    | (go_at_call 22; (with_reducible refine (HC.out _).mono ?_); rintro e w' ⟨rfl, rfl⟩))
  go_ret
  exact ⟨rfl, rfl⟩
set_option maxHeartbeats 1000000 in
set_option linter.unusedVariables false in
theorem blend_d4 (old x part p : Nat) (w w1 : World)
    (HC : Aside0 (∀ w, Calls Try.prog 22 #[.float .f64 part, .float .f64 0, .float .f64 4607182418800017408] w fun e w' => e = .returned (.float .f64 p) ∧ w = w'))
    (HN_x : (FloatKind.f64.format.order x x != some .eq) = false)
    (HN_old : (FloatKind.f64.format.order old old != some .eq) = false)
    (p1 : (FloatKind.f64.format.order p 4607182418800017408 == some .eq) = false)
    (p0 : (FloatKind.f64.format.order p 0 == some .eq) = true) :
    Calls Try.prog 25 #[.float .f64 old, .float .f64 x, .float .f64 part] w fun e w' => e = .returned (.float .f64 old) ∧ w' = w := by
  go_enter Try.func25, Try.ntmps25
  go_wp2_with (first
    | (go_at_call 22; (with_reducible refine (HC.out _).mono ?_); rintro e w' ⟨rfl, rfl⟩))
  go_ret
  exact ⟨rfl, rfl⟩
set_option maxHeartbeats 1000000 in
set_option linter.unusedVariables false in
theorem blend_d5 (old x part p u q v s : Nat) (w w1 : World)
    (HC : Aside0 (∀ w, Calls Try.prog 22 #[.float .f64 part, .float .f64 0, .float .f64 4607182418800017408] w fun e w' => e = .returned (.float .f64 p) ∧ w = w'))
    (HN_x : (FloatKind.f64.format.order x x != some .eq) = false)
    (HN_old : (FloatKind.f64.format.order old old != some .eq) = false)
    (p1 : (FloatKind.f64.format.order p 4607182418800017408 == some .eq) = false)
    (p0 : (FloatKind.f64.format.order p 0 == some .eq) = false)
    (hm1 : ∀ t w, (binOp .mul t (.float .f64 p) (.float .f64 x)).run Try.prog w = .ok (.float .f64 u) w)
    (hm2 : ∀ t w, (binOp .mul t (.float .f64 q) (.float .f64 old)).run Try.prog w = .ok (.float .f64 v) w)
    (hc1 : ∀ w, (convert 22 22 (.float .f64 u)).run Try.prog w = .ok (.float .f64 u) w)
    (hc2 : ∀ w, (convert 22 22 (.float .f64 v)).run Try.prog w = .ok (.float .f64 v) w)
    (hc3 : ∀ w, (convert 22 22 (.float .f64 q)).run Try.prog w = .ok (.float .f64 q) w)
    (hsub : ∀ t w, (binOp .sub t (.float .f64 4607182418800017408) (.float .f64 p)).run Try.prog w = .ok (.float .f64 q) w)
    (hadd : ∀ t w, (binOp .add t (.float .f64 u) (.float .f64 v)).run Try.prog w = .ok (.float .f64 s) w)
    (HN_s : (FloatKind.f64.format.order s s != some .eq) = false) :
    Calls Try.prog 25 #[.float .f64 old, .float .f64 x, .float .f64 part] w fun e w' => e = .returned (.float .f64 s) ∧ w' = w := by
  go_enter Try.func25, Try.ntmps25
  go_wp2_with (first
    | (go_at_call 22; (with_reducible refine (HC.out _).mono ?_); rintro e w' ⟨rfl, rfl⟩))
  go_ret
  exact ⟨rfl, rfl⟩
set_option maxHeartbeats 1000000 in
set_option linter.unusedVariables false in
theorem blend_d6 (old x part p u q v s : Nat) (w w1 : World)
    (HC : Aside0 (∀ w, Calls Try.prog 22 #[.float .f64 part, .float .f64 0, .float .f64 4607182418800017408] w fun e w' => e = .returned (.float .f64 p) ∧ w = w'))
    (HN_x : (FloatKind.f64.format.order x x != some .eq) = false)
    (HN_old : (FloatKind.f64.format.order old old != some .eq) = false)
    (p1 : (FloatKind.f64.format.order p 4607182418800017408 == some .eq) = false)
    (p0 : (FloatKind.f64.format.order p 0 == some .eq) = false)
    (hm1 : ∀ t w, (binOp .mul t (.float .f64 p) (.float .f64 x)).run Try.prog w = .ok (.float .f64 u) w)
    (hm2 : ∀ t w, (binOp .mul t (.float .f64 q) (.float .f64 old)).run Try.prog w = .ok (.float .f64 v) w)
    (hc1 : ∀ w, (convert 22 22 (.float .f64 u)).run Try.prog w = .ok (.float .f64 u) w)
    (hc2 : ∀ w, (convert 22 22 (.float .f64 v)).run Try.prog w = .ok (.float .f64 v) w)
    (hc3 : ∀ w, (convert 22 22 (.float .f64 q)).run Try.prog w = .ok (.float .f64 q) w)
    (hsub : ∀ t w, (binOp .sub t (.float .f64 4607182418800017408) (.float .f64 p)).run Try.prog w = .ok (.float .f64 q) w)
    (hadd : (binOp .add 22 (.float .f64 u) (.float .f64 v)).run Try.prog w = .ok (.float .f64 s) w1)
    (HN_s : (FloatKind.f64.format.order s s != some .eq) = true) :
    Calls Try.prog 25 #[.float .f64 old, .float .f64 x, .float .f64 part] w fun e w' => e = .returned (.float .f64 0) ∧ w' = w1 := by
  go_enter Try.func25, Try.ntmps25
  go_wp2_with (first
    | (go_at_call 22; (with_reducible refine (HC.out _).mono ?_); rintro e w' ⟨rfl, rfl⟩))
  go_ret
  exact ⟨rfl, rfl⟩
end Go.Proofs.Ytbgpdofbnifapaa.R
