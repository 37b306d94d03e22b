/- RealWaits, RealHeld, RealTold, by hand: the laws' own walks. -/
import Derived.Test.YtbgpdofbnifapaaWaitAt
import Derived.Test.YtbgpdofbnifapaaTicksLaw
namespace Go.Proofs.Ytbgpdofbnifapaa.R
open Go.RowKit Go.Proofs.YtbgpdofbnifapaaW.PrintWords Go.Proofs.YtbgpdofbnifapaaW.PrintLast Go.Proofs.YtbgpdofbnifapaaW.PrintMore
attribute [local go_sem] max2_int min2_int max_two min_two
set_option maxHeartbeats 1000000 in
theorem waits_walk (base v k : Nat) (nodes told most : Int) (w : World)
    (H1 : Aside0 (∀ w, Calls Try.prog 19 #[.float .f64 base, .int .i64 nodes, .int .i64 told, .int .i64 most] w fun e w' => e = .returned (.float .f64 v) ∧ Below w.heap.size w w'))
    (H2 : Aside0 (∀ w, Calls Try.prog 20 #[.float .f64 base, .int .i64 nodes, .int .i64 told, .int .i64 most] w fun e w' => e = .returned (.float .f64 v) ∧ w = w'))
    (HA : Aside0 (∀ w, Calls Try.prog 15 #[.float .f64 v, .float .f64 v] w fun e w' => e = .returned (.bool true) ∧ w = w'))
    (HB : Aside0 (∀ w, Calls Try.prog 16 #[.int .i64 nodes] w fun e w' => e = .returned (.int .i64 k) ∧ w = w'))
    (HR : Aside0 (∀ w, Calls Try.prog 21 #[.int .i64 nodes] w fun e w' => e = .returned (.int .i64 k) ∧ w = w')) :
    Calls Try.prog 7 #[.float .f64 base, .int .i64 nodes, .int .i64 told, .int .i64 most] w fun e w' => e = .returned (.bool true) ∧ Below w.heap.size w w' := by
  have HS := Aside0.mk shown_at
  go_enter Try.func7, Try.ntmps7
  go_wp2_with (first
    | (go_at_call 19; (with_reducible refine (H1.out _).mono ?_); rintro e w' ⟨rfl, hb⟩; replace hb := Aside0.mk hb)
    | (go_at_call 20; (with_reducible refine (H2.out _).mono ?_); rintro e w' ⟨rfl, rfl⟩)
    | (go_at_call 15; (with_reducible refine (HA.out _).mono ?_); rintro e w' ⟨rfl, rfl⟩)
    | (go_at_call 16; (with_reducible refine (HB.out _).mono ?_); rintro e w' ⟨rfl, rfl⟩)
    | (go_at_call 21; (with_reducible refine (HR.out _).mono ?_); rintro e w' ⟨rfl, rfl⟩)
    | (go_at_call 14; (with_reducible refine (HS.out _).mono ?_); rintro e w' ⟨rfl, rfl⟩))
  go_ret
  exact ⟨rfl, hb.out⟩
theorem i64_bounds {n : Int} (h : (Lit.int .i64 n).wf = true) : -9223372036854775808 ≤ n ∧ n < 9223372036854775808 := by
  simp [Lit.wf, IntKind.min, IntKind.max, IntKind.signed, IntKind.bits] at h; omega
theorem u16_bounds {n : Int} (h : (Lit.int .u16 n).wf = true) : 0 ≤ n ∧ n < 65536 := by
  simp [Lit.wf, IntKind.min, IntKind.max, IntKind.signed, IntKind.bits] at h; omega
theorem u8_bounds {n : Int} (h : (Lit.int .u8 n).wf = true) : 0 ≤ n ∧ n < 256 := by
  simp [Lit.wf, IntKind.min, IntKind.max, IntKind.signed, IntKind.bits] at h; omega
theorem waits_law (base : Nat) (nodes told most : Int) (hb : base < 18446744073709551616) (hn : (Lit.int .i64 nodes).wf = true) (ht : (Lit.int .i64 told).wf = true) (hm : (Lit.int .i64 most).wf = true) (w : World) :
    Calls Try.prog 7 #[.float .f64 base, .int .i64 nodes, .int .i64 told, .int .i64 most] w fun e w' => e = .returned (.bool true) ∧ Below w.heap.size w w' := by
  have bn' := i64_bounds hn
  have bt := i64_bounds ht
  have bm := i64_bounds hm
  exact waits_walk base _ (bn nodes) nodes told most w ⟨fun w => wait_at base nodes told most hb bn'.1 bn'.2 bt.2 bm.2 w⟩ ⟨fun w => refwait_at base nodes told most hb bn'.2 bt.2 bm.2 w⟩
    ⟨fun w => alike_self (wait (clean base 0 4652007308841189376) (bn nodes) told most) ▸ alike_at _ _ w⟩ ⟨fun w => bits_at nodes bn'.1 bn'.2 w⟩ ⟨fun w => refbits_at nodes bn'.2 w⟩
end Go.Proofs.Ytbgpdofbnifapaa.R
