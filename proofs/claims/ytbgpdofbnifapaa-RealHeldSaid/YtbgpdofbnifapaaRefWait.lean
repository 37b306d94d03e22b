/- By hand: the walks of the document's Wait, case by case (printed by wait_walks.py). -/
import Derived.Test.YtbgpdofbnifapaaWaitWalk
namespace Go.Proofs.Ytbgpdofbnifapaa.R
open Go.RowKit Go.Proofs.YtbgpdofbnifapaaW.PrintWords Go.Proofs.YtbgpdofbnifapaaW.PrintLast Go.Proofs.YtbgpdofbnifapaaW.PrintMore

set_option maxHeartbeats 1000000 in
theorem refwait_bnone (base b f m : Nat) (nodes told most k : Int) (w : World)
    (HC : Aside0 (∀ w, Calls Try.prog 22 #[.float .f64 base, .float .f64 0, .float .f64 4652007308841189376] w fun e w' => e = .returned (.float .f64 b) ∧ w = w'))
    (HB : Aside0 (∀ w, Calls Try.prog 21 #[.int .i64 nodes] w fun e w' => e = .returned (.int .i64 k) ∧ w = w'))
    (hF : floatOfInt .f64 k = f)
    (hm : ∀ t w, (binOp .mul t (.float .f64 b) (.float .f64 f)).run Try.prog w = .ok (.float .f64 m) w)
    (h1 : (FloatKind.f64.format.order m b == some .lt) = true)
    (ht : told ≤ 0) :
    Calls Try.prog 20 #[.float .f64 base, .int .i64 nodes, .int .i64 told, .int .i64 most] w fun e w' => e = .returned (.float .f64 b) ∧ w = w' := by
  go_enter Try.func20, Try.ntmps20
  go_wp2_with (first
    | (go_at_call 22; (with_reducible refine (HC.out _).mono ?_); rintro e w' ⟨rfl, rfl⟩)
    | (go_at_call 21; (with_reducible refine (HB.out _).mono ?_); rintro e w' ⟨rfl, rfl⟩))
  go_ret
  exact ⟨rfl, rfl⟩
set_option maxHeartbeats 1000000 in
theorem refwait_bleast (base b f m : Nat) (nodes told most k : Int) (w : World)
    (HC : Aside0 (∀ w, Calls Try.prog 22 #[.float .f64 base, .float .f64 0, .float .f64 4652007308841189376] w fun e w' => e = .returned (.float .f64 b) ∧ w = w'))
    (HB : Aside0 (∀ w, Calls Try.prog 21 #[.int .i64 nodes] w fun e w' => e = .returned (.int .i64 k) ∧ w = w'))
    (hF : floatOfInt .f64 k = f)
    (hm : ∀ t w, (binOp .mul t (.float .f64 b) (.float .f64 f)).run Try.prog w = .ok (.float .f64 m) w)
    (h1 : (FloatKind.f64.format.order m b == some .lt) = true)
    (ht : ¬ told ≤ 0)
    (hk : most < 1) :
    Calls Try.prog 20 #[.float .f64 base, .int .i64 nodes, .int .i64 told, .int .i64 most] w fun e w' => e = .returned (.float .f64 b) ∧ w = w' := by
  go_enter Try.func20, Try.ntmps20
  go_wp2_with (first
    | (go_at_call 22; (with_reducible refine (HC.out _).mono ?_); rintro e w' ⟨rfl, rfl⟩)
    | (go_at_call 21; (with_reducible refine (HB.out _).mono ?_); rintro e w' ⟨rfl, rfl⟩))
  go_ret
  exact ⟨rfl, rfl⟩
set_option maxHeartbeats 1000000 in
theorem refwait_benough (base b f m : Nat) (nodes told most k : Int) (w : World)
    (HC : Aside0 (∀ w, Calls Try.prog 22 #[.float .f64 base, .float .f64 0, .float .f64 4652007308841189376] w fun e w' => e = .returned (.float .f64 b) ∧ w = w'))
    (HB : Aside0 (∀ w, Calls Try.prog 21 #[.int .i64 nodes] w fun e w' => e = .returned (.int .i64 k) ∧ w = w'))
    (hF : floatOfInt .f64 k = f)
    (hm : ∀ t w, (binOp .mul t (.float .f64 b) (.float .f64 f)).run Try.prog w = .ok (.float .f64 m) w)
    (h1 : (FloatKind.f64.format.order m b == some .lt) = true)
    (ht : ¬ told ≤ 0)
    (hk : ¬ most < 1)
    (hl : most ≤ told) :
    Calls Try.prog 20 #[.float .f64 base, .int .i64 nodes, .int .i64 told, .int .i64 most] w fun e w' => e = .returned (.float .f64 b) ∧ w = w' := by
  go_enter Try.func20, Try.ntmps20
  go_wp2_with (first
    | (go_at_call 22; (with_reducible refine (HC.out _).mono ?_); rintro e w' ⟨rfl, rfl⟩)
    | (go_at_call 21; (with_reducible refine (HB.out _).mono ?_); rintro e w' ⟨rfl, rfl⟩))
  go_ret
  exact ⟨rfl, rfl⟩
set_option maxHeartbeats 1000000 in
theorem refwait_bunder (base b f m ft fm q d p x : Nat) (nodes told most k : Int) (w : World)
    (HC : Aside0 (∀ w, Calls Try.prog 22 #[.float .f64 base, .float .f64 0, .float .f64 4652007308841189376] w fun e w' => e = .returned (.float .f64 b) ∧ w = w'))
    (HB : Aside0 (∀ w, Calls Try.prog 21 #[.int .i64 nodes] w fun e w' => e = .returned (.int .i64 k) ∧ w = w'))
    (hF : floatOfInt .f64 k = f)
    (hm : ∀ t w, (binOp .mul t (.float .f64 b) (.float .f64 f)).run Try.prog w = .ok (.float .f64 m) w)
    (h1 : (FloatKind.f64.format.order m b == some .lt) = true)
    (ht : ¬ told ≤ 0)
    (hk : ¬ most < 1)
    (hl : ¬ most ≤ told)
    (hft : floatOfInt .f64 told = ft)
    (hfm : floatOfInt .f64 most = fm)
    (hq : ∀ t w, (binOp .quo t (.float .f64 ft) (.float .f64 fm)).run Try.prog w = .ok (.float .f64 q) w)
    (hd : ∀ t w, (binOp .sub t (.float .f64 b) (.float .f64 b)).run Try.prog w = .ok (.float .f64 d) w)
    (hp : ∀ t w, (binOp .mul t (.float .f64 q) (.float .f64 d)).run Try.prog w = .ok (.float .f64 p) w)
    (hx : ∀ t w, (binOp .sub t (.float .f64 b) (.float .f64 p)).run Try.prog w = .ok (.float .f64 x) w)
    (h2 : (FloatKind.f64.format.order x b == some .lt) = true) :
    Calls Try.prog 20 #[.float .f64 base, .int .i64 nodes, .int .i64 told, .int .i64 most] w fun e w' => e = .returned (.float .f64 b) ∧ w = w' := by
  go_enter Try.func20, Try.ntmps20
  go_wp2_with (first
    | (go_at_call 22; (with_reducible refine (HC.out _).mono ?_); rintro e w' ⟨rfl, rfl⟩)
    | (go_at_call 21; (with_reducible refine (HB.out _).mono ?_); rintro e w' ⟨rfl, rfl⟩))
  go_ret
  exact ⟨rfl, rfl⟩
set_option maxHeartbeats 1000000 in
theorem refwait_bover (base b f m ft fm q d p x : Nat) (nodes told most k : Int) (w : World)
    (HC : Aside0 (∀ w, Calls Try.prog 22 #[.float .f64 base, .float .f64 0, .float .f64 4652007308841189376] w fun e w' => e = .returned (.float .f64 b) ∧ w = w'))
    (HB : Aside0 (∀ w, Calls Try.prog 21 #[.int .i64 nodes] w fun e w' => e = .returned (.int .i64 k) ∧ w = w'))
    (hF : floatOfInt .f64 k = f)
    (hm : ∀ t w, (binOp .mul t (.float .f64 b) (.float .f64 f)).run Try.prog w = .ok (.float .f64 m) w)
    (h1 : (FloatKind.f64.format.order m b == some .lt) = true)
    (ht : ¬ told ≤ 0)
    (hk : ¬ most < 1)
    (hl : ¬ most ≤ told)
    (hft : floatOfInt .f64 told = ft)
    (hfm : floatOfInt .f64 most = fm)
    (hq : ∀ t w, (binOp .quo t (.float .f64 ft) (.float .f64 fm)).run Try.prog w = .ok (.float .f64 q) w)
    (hd : ∀ t w, (binOp .sub t (.float .f64 b) (.float .f64 b)).run Try.prog w = .ok (.float .f64 d) w)
    (hp : ∀ t w, (binOp .mul t (.float .f64 q) (.float .f64 d)).run Try.prog w = .ok (.float .f64 p) w)
    (hx : ∀ t w, (binOp .sub t (.float .f64 b) (.float .f64 p)).run Try.prog w = .ok (.float .f64 x) w)
    (h2 : (FloatKind.f64.format.order x b == some .lt) = false) :
    Calls Try.prog 20 #[.float .f64 base, .int .i64 nodes, .int .i64 told, .int .i64 most] w fun e w' => e = .returned (.float .f64 x) ∧ w = w' := by
  go_enter Try.func20, Try.ntmps20
  go_wp2_with (first
    | (go_at_call 22; (with_reducible refine (HC.out _).mono ?_); rintro e w' ⟨rfl, rfl⟩)
    | (go_at_call 21; (with_reducible refine (HB.out _).mono ?_); rintro e w' ⟨rfl, rfl⟩))
  go_ret
  exact ⟨rfl, rfl⟩
set_option maxHeartbeats 1000000 in
theorem refwait_mnone (base b f m : Nat) (nodes told most k : Int) (w : World)
    (HC : Aside0 (∀ w, Calls Try.prog 22 #[.float .f64 base, .float .f64 0, .float .f64 4652007308841189376] w fun e w' => e = .returned (.float .f64 b) ∧ w = w'))
    (HB : Aside0 (∀ w, Calls Try.prog 21 #[.int .i64 nodes] w fun e w' => e = .returned (.int .i64 k) ∧ w = w'))
    (hF : floatOfInt .f64 k = f)
    (hm : ∀ t w, (binOp .mul t (.float .f64 b) (.float .f64 f)).run Try.prog w = .ok (.float .f64 m) w)
    (h1 : (FloatKind.f64.format.order m b == some .lt) = false)
    (ht : told ≤ 0) :
    Calls Try.prog 20 #[.float .f64 base, .int .i64 nodes, .int .i64 told, .int .i64 most] w fun e w' => e = .returned (.float .f64 m) ∧ w = w' := by
  go_enter Try.func20, Try.ntmps20
  go_wp2_with (first
    | (go_at_call 22; (with_reducible refine (HC.out _).mono ?_); rintro e w' ⟨rfl, rfl⟩)
    | (go_at_call 21; (with_reducible refine (HB.out _).mono ?_); rintro e w' ⟨rfl, rfl⟩))
  go_ret
  exact ⟨rfl, rfl⟩
set_option maxHeartbeats 1000000 in
theorem refwait_mleast (base b f m : Nat) (nodes told most k : Int) (w : World)
    (HC : Aside0 (∀ w, Calls Try.prog 22 #[.float .f64 base, .float .f64 0, .float .f64 4652007308841189376] w fun e w' => e = .returned (.float .f64 b) ∧ w = w'))
    (HB : Aside0 (∀ w, Calls Try.prog 21 #[.int .i64 nodes] w fun e w' => e = .returned (.int .i64 k) ∧ w = w'))
    (hF : floatOfInt .f64 k = f)
    (hm : ∀ t w, (binOp .mul t (.float .f64 b) (.float .f64 f)).run Try.prog w = .ok (.float .f64 m) w)
    (h1 : (FloatKind.f64.format.order m b == some .lt) = false)
    (ht : ¬ told ≤ 0)
    (hk : most < 1) :
    Calls Try.prog 20 #[.float .f64 base, .int .i64 nodes, .int .i64 told, .int .i64 most] w fun e w' => e = .returned (.float .f64 b) ∧ w = w' := by
  go_enter Try.func20, Try.ntmps20
  go_wp2_with (first
    | (go_at_call 22; (with_reducible refine (HC.out _).mono ?_); rintro e w' ⟨rfl, rfl⟩)
    | (go_at_call 21; (with_reducible refine (HB.out _).mono ?_); rintro e w' ⟨rfl, rfl⟩))
  go_ret
  exact ⟨rfl, rfl⟩
set_option maxHeartbeats 1000000 in
theorem refwait_menough (base b f m : Nat) (nodes told most k : Int) (w : World)
    (HC : Aside0 (∀ w, Calls Try.prog 22 #[.float .f64 base, .float .f64 0, .float .f64 4652007308841189376] w fun e w' => e = .returned (.float .f64 b) ∧ w = w'))
    (HB : Aside0 (∀ w, Calls Try.prog 21 #[.int .i64 nodes] w fun e w' => e = .returned (.int .i64 k) ∧ w = w'))
    (hF : floatOfInt .f64 k = f)
    (hm : ∀ t w, (binOp .mul t (.float .f64 b) (.float .f64 f)).run Try.prog w = .ok (.float .f64 m) w)
    (h1 : (FloatKind.f64.format.order m b == some .lt) = false)
    (ht : ¬ told ≤ 0)
    (hk : ¬ most < 1)
    (hl : most ≤ told) :
    Calls Try.prog 20 #[.float .f64 base, .int .i64 nodes, .int .i64 told, .int .i64 most] w fun e w' => e = .returned (.float .f64 b) ∧ w = w' := by
  go_enter Try.func20, Try.ntmps20
  go_wp2_with (first
    | (go_at_call 22; (with_reducible refine (HC.out _).mono ?_); rintro e w' ⟨rfl, rfl⟩)
    | (go_at_call 21; (with_reducible refine (HB.out _).mono ?_); rintro e w' ⟨rfl, rfl⟩))
  go_ret
  exact ⟨rfl, rfl⟩
set_option maxHeartbeats 1000000 in
theorem refwait_munder (base b f m ft fm q d p x : Nat) (nodes told most k : Int) (w : World)
    (HC : Aside0 (∀ w, Calls Try.prog 22 #[.float .f64 base, .float .f64 0, .float .f64 4652007308841189376] w fun e w' => e = .returned (.float .f64 b) ∧ w = w'))
    (HB : Aside0 (∀ w, Calls Try.prog 21 #[.int .i64 nodes] w fun e w' => e = .returned (.int .i64 k) ∧ w = w'))
    (hF : floatOfInt .f64 k = f)
    (hm : ∀ t w, (binOp .mul t (.float .f64 b) (.float .f64 f)).run Try.prog w = .ok (.float .f64 m) w)
    (h1 : (FloatKind.f64.format.order m b == some .lt) = false)
    (ht : ¬ told ≤ 0)
    (hk : ¬ most < 1)
    (hl : ¬ most ≤ told)
    (hft : floatOfInt .f64 told = ft)
    (hfm : floatOfInt .f64 most = fm)
    (hq : ∀ t w, (binOp .quo t (.float .f64 ft) (.float .f64 fm)).run Try.prog w = .ok (.float .f64 q) w)
    (hd : ∀ t w, (binOp .sub t (.float .f64 m) (.float .f64 b)).run Try.prog w = .ok (.float .f64 d) w)
    (hp : ∀ t w, (binOp .mul t (.float .f64 q) (.float .f64 d)).run Try.prog w = .ok (.float .f64 p) w)
    (hx : ∀ t w, (binOp .sub t (.float .f64 m) (.float .f64 p)).run Try.prog w = .ok (.float .f64 x) w)
    (h2 : (FloatKind.f64.format.order x b == some .lt) = true) :
    Calls Try.prog 20 #[.float .f64 base, .int .i64 nodes, .int .i64 told, .int .i64 most] w fun e w' => e = .returned (.float .f64 b) ∧ w = w' := by
  go_enter Try.func20, Try.ntmps20
  go_wp2_with (first
    | (go_at_call 22; (with_reducible refine (HC.out _).mono ?_); rintro e w' ⟨rfl, rfl⟩)
    | (go_at_call 21; (with_reducible refine (HB.out _).mono ?_); rintro e w' ⟨rfl, rfl⟩))
  go_ret
  exact ⟨rfl, rfl⟩
set_option maxHeartbeats 1000000 in
theorem refwait_mover (base b f m ft fm q d p x : Nat) (nodes told most k : Int) (w : World)
    (HC : Aside0 (∀ w, Calls Try.prog 22 #[.float .f64 base, .float .f64 0, .float .f64 4652007308841189376] w fun e w' => e = .returned (.float .f64 b) ∧ w = w'))
    (HB : Aside0 (∀ w, Calls Try.prog 21 #[.int .i64 nodes] w fun e w' => e = .returned (.int .i64 k) ∧ w = w'))
    (hF : floatOfInt .f64 k = f)
    (hm : ∀ t w, (binOp .mul t (.float .f64 b) (.float .f64 f)).run Try.prog w = .ok (.float .f64 m) w)
    (h1 : (FloatKind.f64.format.order m b == some .lt) = false)
    (ht : ¬ told ≤ 0)
    (hk : ¬ most < 1)
    (hl : ¬ most ≤ told)
    (hft : floatOfInt .f64 told = ft)
    (hfm : floatOfInt .f64 most = fm)
    (hq : ∀ t w, (binOp .quo t (.float .f64 ft) (.float .f64 fm)).run Try.prog w = .ok (.float .f64 q) w)
    (hd : ∀ t w, (binOp .sub t (.float .f64 m) (.float .f64 b)).run Try.prog w = .ok (.float .f64 d) w)
    (hp : ∀ t w, (binOp .mul t (.float .f64 q) (.float .f64 d)).run Try.prog w = .ok (.float .f64 p) w)
    (hx : ∀ t w, (binOp .sub t (.float .f64 m) (.float .f64 p)).run Try.prog w = .ok (.float .f64 x) w)
    (h2 : (FloatKind.f64.format.order x b == some .lt) = false) :
    Calls Try.prog 20 #[.float .f64 base, .int .i64 nodes, .int .i64 told, .int .i64 most] w fun e w' => e = .returned (.float .f64 x) ∧ w = w' := by
  go_enter Try.func20, Try.ntmps20
  go_wp2_with (first
    | (go_at_call 22; (with_reducible refine (HC.out _).mono ?_); rintro e w' ⟨rfl, rfl⟩)
    | (go_at_call 21; (with_reducible refine (HB.out _).mono ?_); rintro e w' ⟨rfl, rfl⟩))
  go_ret
  exact ⟨rfl, rfl⟩
end Go.Proofs.Ytbgpdofbnifapaa.R
