/- RealMax, by hand: the law's own walk. -/
import Derived.Test.YtbgpdofbnifapaaMax
namespace Go.Proofs.Ytbgpdofbnifapaa.R
open Go.RowKit Go.Proofs.YtbgpdofbnifapaaW.PrintWords Go.Proofs.YtbgpdofbnifapaaW.PrintLast Go.Proofs.YtbgpdofbnifapaaW.PrintMore

theorem inf_at (w : World) : Calls Try.prog 41 #[.int .i64 (-1)] w fun e w' => e = .returned (.float .f64 18442240474082181120) ∧ w = w' := by
  have HF := frombits_run 18442240474082181120
  go_enter Try.func41, Try.ntmps41
  go_wp2
  go_ret
  exact ⟨rfl, rfl⟩
theorem isinf_at (w : World) : Calls Try.prog 28 #[.float .f64 18442240474082181120, .int .i64 (-1)] w fun e w' => e = .returned (.bool true) ∧ w = w' := by
  have o1 : FloatKind.f64.format.order 9218868437227405312 9218868437227405311 = some .gt := by kernel_rfl
  have hn : ∀ w, (Op.unary .neg (.float .f64 18442240474082181120)).run Try.prog w = .ok (.float .f64 9218868437227405312) w := fun w => by kernel_rfl
  go_enter Try.func28, Try.ntmps28
  go_wp2
  go_ret
  exact ⟨rfl, rfl⟩
theorem nan_key : Flt.nan 9221120237041090561 = true := by decide
theorem key_nan (x : Nat) (h : Flt.nan x = true) : key x = -9223372036854775808 := by unfold key; rw [if_pos h]
theorem isMax_nan {l : List Nat} {k M : Nat} (h : isMax l k M) (hn : Flt.nan M = true) : isMax l k 9221120237041090561 := by
  obtain ⟨_, ⟨j, hj, e⟩, h2⟩ := h
  have k1 := key_nan M hn
  have k2 := key_nan 9221120237041090561 nan_key
  refine ⟨by omega, ⟨j, hj, by rw [k2, ← k1, e]⟩, fun i hi => ?_⟩
  have := h2 i hi
  omega
theorem max_at (A : Option Addr) (c : Nat) (l : List Nat) (w : World) (hr : Kd.C kf w A l.length l) (hb : ∀ k, l.getD k 0 < 18446744073709551616) (h0 : 0 < l.length) :
    Calls Try.prog 27 #[.slice A l.length c] w fun e w' => (∃ M, e = .returned (.float .f64 M) ∧ isMax l l.length M) ∧ w = w' := by
  have HM := Aside0.mk (maxfunc_at A c l w hr hb h0)
  have HN := Aside0.mk nan_at
  have HI := Aside0.mk isnan_at
  have hl0 : ¬ (l.length : Int) = 0 := by omega
  have hl1 : ((l.length : Int) == 0) = false := by simpa using hl0
  clear hr hb
  go_enter Try.func27, Try.ntmps27
  go_wp2_with (go_at_call 42; (with_reducible refine HM.out.mono ?_); rintro e w' ⟨⟨M, rfl, hM⟩, rfl⟩; have HX := Aside0.mk hM; clear hM)
  cases hn : Flt.nan M
  · have H2 := Aside0.mk (fun w => hn ▸ isnan_at M w)
    clear hn
    go_wp2_with (go_at_call 36; (with_reducible refine (H2.out _).mono ?_); rintro e w' ⟨rfl, rfl⟩)
    go_ret
    exact ⟨⟨M, rfl, HX.out⟩, rfl⟩
  · have H2 := Aside0.mk (fun w => hn ▸ isnan_at M w)
    have HY := Aside0.mk (isMax_nan HX.out hn)
    clear hn
    go_wp2_with (first
      | (go_at_call 36; (with_reducible refine (H2.out _).mono ?_); rintro e w' ⟨rfl, rfl⟩)
      | (go_at_call 32; (with_reducible refine (HN.out _).mono ?_); rintro e w' ⟨rfl, rfl⟩))
    go_ret
    exact ⟨⟨_, rfl, HY.out⟩, rfl⟩
set_option maxHeartbeats 2000000 in
theorem refmax_at (A : Option Addr) (c : Nat) (l : List Nat) (w : World) (hr : Kd.C kf w A l.length l) (hb : ∀ k, l.getD k 0 < 18446744073709551616) (h0 : 0 < l.length) :
    Calls Try.prog 29 #[.slice A l.length c] w fun e w' => (∃ M, e = .returned (.float .f64 M) ∧ isMax l l.length M) ∧ w = w' := by
  have HR := Aside0.mk hr
  have HB := Aside0.mk hb
  have HI := Aside0.mk inf_at
  have HN := Aside0.mk nan_at
  have hlen : (l.length : Int) ≤ 9223372036854775807 := by have := hr.2.1; omega
  obtain ⟨ad, e, _⟩ := at_F hr 0 h0
  subst e
  clear hr hb
  go_enter Try.func29, Try.ntmps29
  go_wp2_with (go_at_call 41; (with_reducible refine (HI.out _).mono ?_); rintro e w' ⟨rfl, rfl⟩)
  go_loopw [3, 4, 5] (fun m f i wr => ∃ (k M : Nat), m = .float .f64 M ∧ f = .bool (decide (k = 0)) ∧ i = .int .i64 k ∧ Aside0 (k ≤ l.length) ∧ Aside0 (0 < k → isMax l k M) ∧ w = wr)
    (fun _ _ i _ => l.length - (intOf i).toNat)
  case atStart => exact ⟨0, 18442240474082181120, rfl, rfl, rfl, ⟨by omega⟩, ⟨fun h => absurd h (Nat.lt_irrefl 0)⟩, rfl⟩
  case round =>
    obtain ⟨k, M, rfl, rfl, rfl, hk, hM, rfl⟩ := hrel
    by_cases hlt : k < l.length
    · obtain ⟨ad', e, hxk⟩ := at_F HR.out k hlt
      obtain rfl : ad = ad' := by simpa using e
      have hxb := HB.out k
      by_cases hk0 : k = 0
      · subst hk0
        have hone : Aside0 (isMax l 1 (l.getD 0 0)) := ⟨hxb, ⟨0, by omega, rfl⟩, fun i hi => by rw [show i = 0 by omega]; exact Int.le_refl _⟩
        rw [show ad.add 0 = ad from by simp [Addr.add]] at hxk
        generalize l.getD 0 0 = x at hxk hone
        clear hxb
        go_wp2
        refine ⟨⟨1, x, rfl, by simp, by go_num, ⟨by omega⟩, ⟨fun _ => hone.out⟩, trivial⟩, by simp [intOf]; omega⟩
      · have hM' := hM.out (by omega)
        have hkd : decide (k = 0) = false := decide_eq_false hk0
        have OA := reforder_at (l.getD k 0) M hxb hM'.1
        have hc := Aside0.mk (cmp_cases' (l.getD k 0) M)
        have HS := Aside0.mk (fun h => isMax_stay (k := k) hM' h)
        have HX := Aside0.mk (fun h => isMax_new (k := k) hM' hxb h)
        generalize l.getD k 0 = x at hxk OA hc HS HX
        have HK0 := Aside0.mk hk0
        clear hxb hM' hk0
        rcases hc.out with ⟨e1, e2⟩ | ⟨e1, e2⟩ | ⟨e1, e2⟩
        · rw [e1] at OA
          have OA := Aside0.mk OA
          have E2 := Aside0.mk e2
          clear e1 e2 hc
          go_wp2_with (go_at_call 24; (with_reducible refine (OA.out _).mono ?_); rintro e w' ⟨rfl, rfl⟩)
          refine ⟨⟨k + 1, M, rfl, by simp, by go_num, ⟨by omega⟩, ⟨fun _ => HS.out (by have := E2.out; omega)⟩, trivial⟩, by simp [intOf]; omega⟩
        · rw [e1] at OA
          have OA := Aside0.mk OA
          have E2 := Aside0.mk e2
          clear e1 e2 hc
          go_wp2_with (go_at_call 24; (with_reducible refine (OA.out _).mono ?_); rintro e w' ⟨rfl, rfl⟩)
          refine ⟨⟨k + 1, M, rfl, by simp, by go_num, ⟨by omega⟩, ⟨fun _ => HS.out (by have := E2.out; omega)⟩, trivial⟩, by simp [intOf]; omega⟩
        · rw [e1] at OA
          have OA := Aside0.mk OA
          have E2 := Aside0.mk e2
          clear e1 e2 hc
          go_wp2_with (go_at_call 24; (with_reducible refine (OA.out _).mono ?_); rintro e w' ⟨rfl, rfl⟩)
          refine ⟨⟨k + 1, x, rfl, by simp, by go_num, ⟨by omega⟩, ⟨fun _ => HX.out E2.out⟩, trivial⟩, by simp [intOf]; omega⟩
    · obtain rfl : k = l.length := by have := hk.out; omega
      have hX := Aside0.mk (hM.out h0)
      have hs := ord_self M
      cases hn : Flt.nan M
      · rw [hn] at hs
        clear hlt hn
        go_wp2
        go_ret
        exact ⟨⟨M, rfl, hX.out⟩, rfl⟩
      · rw [hn] at hs
        have HY := Aside0.mk (isMax_nan hX.out hn)
        clear hlt hn
        go_wp2_with (go_at_call 32; (with_reducible refine (HN.out _).mono ?_); rintro e w' ⟨rfl, rfl⟩)
        go_ret
        exact ⟨⟨_, rfl, HY.out⟩, rfl⟩
end Go.Proofs.Ytbgpdofbnifapaa.R
