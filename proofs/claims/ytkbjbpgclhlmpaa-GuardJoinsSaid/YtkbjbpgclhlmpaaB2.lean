-- printed by this session's own copy of the print program (wip/patch), for seat Ytkbjbpgclhlmpaa
import Derived.Test.YtkbjbpgclhlmpaaFn
import Derived.Test.YtkbjbpgclhlmpaaB0
import Derived.Test.YtkbjbpgclhlmpaaB1
import Derived.Test.YtkbjbpgclhlmpaaJoin
import Derived.Test.YtkbjbpgclhlmpaaSum
namespace Go.Proofs.Ytkbjbpgclhlmpaa.B
open Go.Proofs.YtkbjbpgclhlmpaaW Go.RowKit Go.Proofs.YtkbjbpgclhlmpaaW.PrintWords Go.Proofs.YtkbjbpgclhlmpaaW.PrintLast Go.Proofs.YtkbjbpgclhlmpaaW.PrintMore
attribute [local go_sem] max2_int min2_int max_two min_two max_three min_three max_four min_four   -- for this text's walks alone
set_option linter.unusedVariables false
set_option linter.unusedSimpArgs false

/-! ### conventiclelaw02_GuardShort: function 6 -/
def conventiclelaw02_GuardShort.j0 : Nat → ByteArray → Bool → Option (Bool)
  | 0, _, _ => none
  | k + 1, x0, x13 => if x13 = true then ((conventiclelaw02_shown.f).bind fun t126 => (some t126)) else ((guard_Open.f x0).bind fun bt127 => ((guard_Seal.f (⟨#[]⟩ : ByteArray)).bind fun t129 => ((guard_Open.f t129).bind fun bt130 => (if ((bt127.2 == 10) == (decide ((x0.size : Int) < 4))) = true then (if bt127.2 = 0 then (if bt130.1.toList = ([] : List UInt8) then (if bt130.2 = 0 then ((guard_Seal.f x0).bind fun t132 => (some ((t132.size : Int) == (wrap64 ((x0.size : Int) + 4))))) else (none)) else (none)) else (if bt127.1.toList = ([] : List UInt8) then (if bt130.1.toList = ([] : List UInt8) then (if bt130.2 = 0 then ((guard_Seal.f x0).bind fun t133 => (some ((t133.size : Int) == (wrap64 ((x0.size : Int) + 4))))) else (none)) else (none)) else (none))) else (none)))))
def conventiclelaw02_GuardShort.f (k : Nat) (a0 : ByteArray) : Option (Bool) := if (a0.size : Int) > 300 then (conventiclelaw02_GuardShort.j0 k a0 true) else ((conventiclelaw02_shown.f).bind fun t125 => (conventiclelaw02_GuardShort.j0 k a0 (!t125)))
theorem conventiclelaw02_GuardShort.mono_l : ∀ k, (∀ y0 y1, LeO (conventiclelaw02_GuardShort.j0 k y0 y1) (conventiclelaw02_GuardShort.j0 (k + 1) y0 y1))
  | 0 => fun _ _ r h => by simp [conventiclelaw02_GuardShort.j0] at h
  | k + 1 => by
    have ih0 := conventiclelaw02_GuardShort.mono_l k
    · intro y0 y1
      unfold conventiclelaw02_GuardShort.j0
      repeat' first
      | (with_reducible exact ih0 _ _)
      | (with_reducible exact LeO.refl _)
      | (with_reducible exact LeO.none _)
      | (with_reducible refine LeO.ite ?_ ?_)
      | (with_reducible refine LeO.bind ?_ (fun _ => ?_))
      | exact ih0 _ _
      | exact LeO.none _
      | refine LeO.ite ?_ ?_
      | refine LeO.bind ?_ (fun _ => ?_)
theorem conventiclelaw02_GuardShort.mono : ∀ a0 k, LeO (conventiclelaw02_GuardShort.f k a0) (conventiclelaw02_GuardShort.f (k + 1) a0) := by
  intro a0 k
  have ih0 := conventiclelaw02_GuardShort.mono_l k
  unfold conventiclelaw02_GuardShort.f
  repeat' first
      | (with_reducible exact ih0 _ _)
      | (with_reducible exact LeO.refl _)
      | (with_reducible exact LeO.none _)
      | (with_reducible refine LeO.ite ?_ ?_)
      | (with_reducible refine LeO.bind ?_ (fun _ => ?_))
      | exact ih0 _ _
      | exact LeO.none _
      | refine LeO.ite ?_ ?_
      | refine LeO.bind ?_ (fun _ => ?_)
set_option maxHeartbeats 8000000 in
set_option maxRecDepth 100000 in
theorem conventiclelaw02_GuardShort.calls (k : Nat) (a0 : ByteArray) (r : Bool) (w : World) (h : conventiclelaw02_GuardShort.f k a0 = some r) :
    Calls Try.prog 6 #[.string a0] w fun e w' => e = .returned (.bool r) ∧ Below w.heap.size w w' := by
  have HB := Aside0.mk (Below.refl w.heap.size w)
  have H : (if (a0.size : Int) > 300 then (conventiclelaw02_GuardShort.j0 k a0 true) else ((conventiclelaw02_shown.f).bind fun t125 => (conventiclelaw02_GuardShort.j0 k a0 (!t125)))) = some r := h
  clear h
  have HC2 := Aside0.mk H
  clear H
  go_enter Try.func6, Try.ntmps6
  go_upto_region 1 with (fail)
  go_cut [13] (fun v13 wc => ∃ (kq : Nat) (x13_1 : Bool), v13 = .bool x13_1 ∧ Aside0 (conventiclelaw02_GuardShort.j0 kq a0 x13_1 = some r) ∧ Aside0 (kq ≤ k) ∧ Aside0 (Below w.heap.size w wc))
  case first =>
    have H := HC2.out
    clear HC2
    by_cases c3 : (a0.size : Int) > 300
    · rw [if_pos c3] at H
      have c3b0 : decide (300 < (a0.size : Int)) = true := decide_eq_true c3
      have c3b1 : decide (300 < a0.size) = true := decide_eq_true (by omega)
      clear c3
      (first | rw [c3b0] | (simp only [i64_w, i32_w]; rw [c3b0]) | skip)
      have H' := Aside0.mk H
      clear H
      go_wp2
      go_meet
      case rel => exact ⟨_, (true), (by first | rfl | (simp; done) | (simp [*]; done)), H', ⟨by first | omega | exact Nat.le_refl _⟩, ⟨by repeat (first | (with_reducible first | exact HB.out | apply below_alloc | apply pw_below_drewN | apply below_drew1) | exact HB.out)⟩⟩
    · rw [if_neg c3] at H
      have c3b0 : decide (300 < (a0.size : Int)) = false := decide_eq_false c3
      have c3b1 : decide (300 < a0.size) = false := decide_eq_false (by omega)
      clear c3
      (first | rw [c3b0] | (simp only [i64_w, i32_w]; rw [c3b0]) | skip)
      replace H := Option.bind_eq_some_iff.mp H
      obtain ⟨t125, A40, H⟩ := H
      replace H : (conventiclelaw02_GuardShort.j0 k a0 (!t125)) = some r := H
      have A4 := Aside0.mk A40
      clear A40
      have H' := Aside0.mk H
      clear H
      go_wp2_with (first | (go_at_call 9; (with_reducible refine (conventiclelaw02_shown.calls  t125 _ A4.out).mono ?_); rintro e w5 ⟨rfl, hb⟩; have n0_ := Aside0.mk (below_step (by repeat (first | (with_reducible first | exact HB.out | apply below_alloc | apply pw_below_drewN | apply below_drew1) | exact HB.out)) hb); clear HB; have HB := n0_; clear n0_; (try clear hb); (try clear hb2); (try clear hk); (try clear hi)))
      go_meet
      case rel => exact ⟨_, (!t125), (by first | rfl | (simp; done) | (simp [*]; done)), H', ⟨by first | omega | exact Nat.le_refl _⟩, ⟨by repeat (first | (with_reducible first | exact HB.out | apply below_alloc | apply pw_below_drewN | apply below_drew1) | exact HB.out)⟩⟩
  case rest =>
    clear HC2
    try clear p2
    try clear c3
    try clear c3b0
    try clear c3b1
    obtain ⟨kq, x13_1, rfl, HA, HJ1, HB⟩ := hcut
    cases kq with
    | zero => exact absurd HA.out (by simp [conventiclelaw02_GuardShort.j0])
    | succ kj1 =>
      have H := HA.out
      clear HA
      simp only [conventiclelaw02_GuardShort.j0] at H
      by_cases c6 : x13_1 = true
      · subst c6
        have H1 : ((conventiclelaw02_shown.f).bind fun t126 => (some t126)) = some r := by rw [if_pos rfl] at H; exact H
        clear H
        have H := H1
        clear H1
        replace H := Option.bind_eq_some_iff.mp H
        obtain ⟨t126, A70, H⟩ := H
        replace H : (some t126) = some r := H
        have A7 := Aside0.mk A70
        clear A70
        obtain rfl := Option.some.inj H
        go_wp2_with (first | ((with_reducible refine gate_callee (f := 9) rfl ?_); refine goesL_ (some 14) rfl rfl Try.func9 (by kernel_rfl) rfl #[] rfl (by (try simp only [List.map_toArray, List.map_cons, List.map_nil]); first | done | rfl | (simp only [List.length_drop, List.length_take]; rfl)) ?_; (with_reducible refine (conventiclelaw02_shown.calls  t126 _ A7.out).mono ?_); rintro e w8 ⟨rfl, hb⟩; refine ⟨_, rfl, ?_⟩; have n0_ := Aside0.mk (below_step (by repeat (first | (with_reducible first | exact HB.out | apply below_alloc | apply pw_below_drewN | apply below_drew1) | exact HB.out)) hb); clear HB; have HB := n0_; clear n0_; (try clear hb); (try clear hb2); (try clear hk); (try clear hi)))
        go_ret
        exact ⟨by first | rfl | (simp [errW_none, errW_some] <;> rfl) | (simp [*, errW_none, errW_some] <;> rfl), by repeat (first | (with_reducible first | exact HB.out | apply below_alloc | apply pw_below_drewN | apply below_drew1) | exact HB.out)⟩
      · replace c6 := Bool.eq_false_iff.mpr c6
        subst c6
        have H1 : ((guard_Open.f a0).bind fun bt127 => ((guard_Seal.f (⟨#[]⟩ : ByteArray)).bind fun t129 => ((guard_Open.f t129).bind fun bt130 => (if ((bt127.2 == 10) == (decide ((a0.size : Int) < 4))) = true then (if bt127.2 = 0 then (if bt130.1.toList = ([] : List UInt8) then (if bt130.2 = 0 then ((guard_Seal.f a0).bind fun t132 => (some ((t132.size : Int) == (wrap64 ((a0.size : Int) + 4))))) else (none)) else (none)) else (if bt127.1.toList = ([] : List UInt8) then (if bt130.1.toList = ([] : List UInt8) then (if bt130.2 = 0 then ((guard_Seal.f a0).bind fun t133 => (some ((t133.size : Int) == (wrap64 ((a0.size : Int) + 4))))) else (none)) else (none)) else (none))) else (none))))) = some r := by rw [if_neg (show ¬ (false = true) by decide)] at H; exact H
        clear H
        have H := H1
        clear H1
        replace H := Option.bind_eq_some_iff.mp H
        obtain ⟨⟨t127, t128⟩, A90, H⟩ := H
        replace H : ((guard_Seal.f (⟨#[]⟩ : ByteArray)).bind fun t129 => ((guard_Open.f t129).bind fun bt130 => (if ((t128 == 10) == (decide ((a0.size : Int) < 4))) = true then (if t128 = 0 then (if bt130.1.toList = ([] : List UInt8) then (if bt130.2 = 0 then ((guard_Seal.f a0).bind fun t132 => (some ((t132.size : Int) == (wrap64 ((a0.size : Int) + 4))))) else (none)) else (none)) else (if t127.toList = ([] : List UInt8) then (if bt130.1.toList = ([] : List UInt8) then (if bt130.2 = 0 then ((guard_Seal.f a0).bind fun t133 => (some ((t133.size : Int) == (wrap64 ((a0.size : Int) + 4))))) else (none)) else (none)) else (none))) else (none)))) = some r := H
        have A9 := Aside0.mk A90
        clear A90
        replace H := Option.bind_eq_some_iff.mp H
        obtain ⟨t129, A100, H⟩ := H
        replace H : ((guard_Open.f t129).bind fun bt130 => (if ((t128 == 10) == (decide ((a0.size : Int) < 4))) = true then (if t128 = 0 then (if bt130.1.toList = ([] : List UInt8) then (if bt130.2 = 0 then ((guard_Seal.f a0).bind fun t132 => (some ((t132.size : Int) == (wrap64 ((a0.size : Int) + 4))))) else (none)) else (none)) else (if t127.toList = ([] : List UInt8) then (if bt130.1.toList = ([] : List UInt8) then (if bt130.2 = 0 then ((guard_Seal.f a0).bind fun t133 => (some ((t133.size : Int) == (wrap64 ((a0.size : Int) + 4))))) else (none)) else (none)) else (none))) else (none))) = some r := H
        have A10 := Aside0.mk A100
        clear A100
        replace H := Option.bind_eq_some_iff.mp H
        obtain ⟨⟨t130, t131⟩, A110, H⟩ := H
        replace H : (if ((t128 == 10) == (decide ((a0.size : Int) < 4))) = true then (if t128 = 0 then (if t130.toList = ([] : List UInt8) then (if t131 = 0 then ((guard_Seal.f a0).bind fun t132 => (some ((t132.size : Int) == (wrap64 ((a0.size : Int) + 4))))) else (none)) else (none)) else (if t127.toList = ([] : List UInt8) then (if t130.toList = ([] : List UInt8) then (if t131 = 0 then ((guard_Seal.f a0).bind fun t133 => (some ((t133.size : Int) == (wrap64 ((a0.size : Int) + 4))))) else (none)) else (none)) else (none))) else (none)) = some r := H
        have A11 := Aside0.mk A110
        clear A110
        by_cases c12 : ((t128 == 10) == (decide ((a0.size : Int) < 4))) = true
        · rw [if_pos c12] at H
          have c12b0 : ((t128 == 10) == (decide ((a0.size : Int) < 4))) = true := c12
          (try (have c12b1 : decide ((t128 == 10) = (decide ((a0.size : Int) < 4))) = true := by simpa using c12))
          (try (have c12b2 : ((t128 == 10) == (decide ((a0.size : Int) < 4))) = true := by simpa using c12))
          clear c12
          by_cases c13 : t128 = 0
          · rw [if_pos c13] at H
            have c13b0 : (t128 == 0) = true := beq_iff_eq.mpr c13
            have c13b1 : (t128 != 0) = false := bne_eq_false_iff_eq.mpr c13
            clear c13
            by_cases c14 : t130.toList = ([] : List UInt8)
            · rw [if_pos c14] at H
              have c14b0 : (t130.toList == ([] : List UInt8)) = true := beq_iff_eq.mpr c14
              have c14b1 : (t130.toList != ([] : List UInt8)) = false := bne_eq_false_iff_eq.mpr c14
              clear c14
              by_cases c15 : t131 = 0
              · rw [if_pos c15] at H
                have c15b0 : (t131 == 0) = true := beq_iff_eq.mpr c15
                have c15b1 : (t131 != 0) = false := bne_eq_false_iff_eq.mpr c15
                clear c15
                replace H := Option.bind_eq_some_iff.mp H
                obtain ⟨t132, A160, H⟩ := H
                replace H : (some ((t132.size : Int) == (wrap64 ((a0.size : Int) + 4)))) = some r := H
                have A16 := Aside0.mk A160
                clear A160
                obtain rfl := Option.some.inj H
                go_wp2_with (first | ((with_reducible refine gate_callee (f := 11) rfl ?_); refine goesL_ (some 17) rfl rfl Try.func11 (by kernel_rfl) rfl #[.string a0] rfl (by (try simp only [List.map_toArray, List.map_cons, List.map_nil]); first | done | rfl | (simp only [List.length_drop, List.length_take]; rfl)) ?_; (with_reducible refine (guard_Open.calls a0 t127 t128 _ A9.out).mono ?_); rintro e w17 ⟨rfl, hb⟩; refine ⟨_, rfl, ?_⟩; have n0_ := Aside0.mk (below_step (by repeat (first | (with_reducible first | exact HB.out | apply below_alloc | apply pw_below_drewN | apply below_drew1) | exact HB.out)) hb); clear HB; have HB := n0_; clear n0_; (try clear hb); (try clear hb2); (try clear hk); (try clear hi)) | ((with_reducible refine gate_callee (f := 14) rfl ?_); refine goesL_ (some 21) rfl rfl Try.func14 (by kernel_rfl) rfl #[.string (⟨#[]⟩ : ByteArray)] rfl (by (try simp only [List.map_toArray, List.map_cons, List.map_nil]); first | done | rfl | (simp only [List.length_drop, List.length_take]; rfl)) ?_; (with_reducible refine (guard_Seal.calls (⟨#[]⟩ : ByteArray) t129 _ A10.out).mono ?_); rintro e w18 ⟨rfl, hb⟩; refine ⟨_, rfl, ?_⟩; have n0_ := Aside0.mk (below_step (by repeat (first | (with_reducible first | exact HB.out | apply below_alloc | apply pw_below_drewN | apply below_drew1) | exact HB.out)) hb); clear HB; have HB := n0_; clear n0_; (try clear hb); (try clear hb2); (try clear hk); (try clear hi)) | ((with_reducible refine gate_callee (f := 11) rfl ?_); refine goesL_ (some 22) rfl rfl Try.func11 (by kernel_rfl) rfl #[.string t129] rfl (by (try simp only [List.map_toArray, List.map_cons, List.map_nil]); first | done | rfl | (simp only [List.length_drop, List.length_take]; rfl)) ?_; (with_reducible refine (guard_Open.calls t129 t130 t131 _ A11.out).mono ?_); rintro e w19 ⟨rfl, hb⟩; refine ⟨_, rfl, ?_⟩; have n0_ := Aside0.mk (below_step (by repeat (first | (with_reducible first | exact HB.out | apply below_alloc | apply pw_below_drewN | apply below_drew1) | exact HB.out)) hb); clear HB; have HB := n0_; clear n0_; (try clear hb); (try clear hb2); (try clear hk); (try clear hi)) | (go_at_call 14; (with_reducible refine (guard_Seal.calls a0 t132 _ A16.out).mono ?_); rintro e w20 ⟨rfl, hb⟩; have n0_ := Aside0.mk (below_step (by repeat (first | (with_reducible first | exact HB.out | apply below_alloc | apply pw_below_drewN | apply below_drew1) | exact HB.out)) hb); clear HB; have HB := n0_; clear n0_; (try clear hb); (try clear hb2); (try clear hk); (try clear hi)))
                go_ret
                exact ⟨by first | rfl | (simp [errW_none, errW_some] <;> rfl) | (simp [*, errW_none, errW_some] <;> rfl), by repeat (first | (with_reducible first | exact HB.out | apply below_alloc | apply pw_below_drewN | apply below_drew1) | exact HB.out)⟩
              · rw [if_neg c15] at H
                exact absurd H (by simp)
            · rw [if_neg c14] at H
              exact absurd H (by simp)
          · rw [if_neg c13] at H
            have c13b0 : (t128 == 0) = false := beq_eq_false_iff_ne.mpr c13
            have c13b1 : (t128 != 0) = true := bne_iff_ne.mpr c13
            by_cases c21 : t127.toList = ([] : List UInt8)
            · rw [if_pos c21] at H
              have c21b0 : (t127.toList == ([] : List UInt8)) = true := beq_iff_eq.mpr c21
              have c21b1 : (t127.toList != ([] : List UInt8)) = false := bne_eq_false_iff_eq.mpr c21
              clear c21
              by_cases c22 : t130.toList = ([] : List UInt8)
              · rw [if_pos c22] at H
                have c22b0 : (t130.toList == ([] : List UInt8)) = true := beq_iff_eq.mpr c22
                have c22b1 : (t130.toList != ([] : List UInt8)) = false := bne_eq_false_iff_eq.mpr c22
                clear c22
                by_cases c23 : t131 = 0
                · rw [if_pos c23] at H
                  have c23b0 : (t131 == 0) = true := beq_iff_eq.mpr c23
                  have c23b1 : (t131 != 0) = false := bne_eq_false_iff_eq.mpr c23
                  clear c23
                  replace H := Option.bind_eq_some_iff.mp H
                  obtain ⟨t133, A240, H⟩ := H
                  replace H : (some ((t133.size : Int) == (wrap64 ((a0.size : Int) + 4)))) = some r := H
                  have A24 := Aside0.mk A240
                  clear A240
                  obtain rfl := Option.some.inj H
                  go_wp2_with (first | ((with_reducible refine gate_callee (f := 11) rfl ?_); refine goesL_ (some 17) rfl rfl Try.func11 (by kernel_rfl) rfl #[.string a0] rfl (by (try simp only [List.map_toArray, List.map_cons, List.map_nil]); first | done | rfl | (simp only [List.length_drop, List.length_take]; rfl)) ?_; (with_reducible refine (guard_Open.calls a0 t127 t128 _ A9.out).mono ?_); rintro e w25 ⟨rfl, hb⟩; refine ⟨_, rfl, ?_⟩; have n0_ := Aside0.mk (below_step (by repeat (first | (with_reducible first | exact HB.out | apply below_alloc | apply pw_below_drewN | apply below_drew1) | exact HB.out)) hb); clear HB; have HB := n0_; clear n0_; (try clear hb); (try clear hb2); (try clear hk); (try clear hi)) | ((with_reducible refine gate_callee (f := 14) rfl ?_); refine goesL_ (some 21) rfl rfl Try.func14 (by kernel_rfl) rfl #[.string (⟨#[]⟩ : ByteArray)] rfl (by (try simp only [List.map_toArray, List.map_cons, List.map_nil]); first | done | rfl | (simp only [List.length_drop, List.length_take]; rfl)) ?_; (with_reducible refine (guard_Seal.calls (⟨#[]⟩ : ByteArray) t129 _ A10.out).mono ?_); rintro e w26 ⟨rfl, hb⟩; refine ⟨_, rfl, ?_⟩; have n0_ := Aside0.mk (below_step (by repeat (first | (with_reducible first | exact HB.out | apply below_alloc | apply pw_below_drewN | apply below_drew1) | exact HB.out)) hb); clear HB; have HB := n0_; clear n0_; (try clear hb); (try clear hb2); (try clear hk); (try clear hi)) | ((with_reducible refine gate_callee (f := 11) rfl ?_); refine goesL_ (some 22) rfl rfl Try.func11 (by kernel_rfl) rfl #[.string t129] rfl (by (try simp only [List.map_toArray, List.map_cons, List.map_nil]); first | done | rfl | (simp only [List.length_drop, List.length_take]; rfl)) ?_; (with_reducible refine (guard_Open.calls t129 t130 t131 _ A11.out).mono ?_); rintro e w27 ⟨rfl, hb⟩; refine ⟨_, rfl, ?_⟩; have n0_ := Aside0.mk (below_step (by repeat (first | (with_reducible first | exact HB.out | apply below_alloc | apply pw_below_drewN | apply below_drew1) | exact HB.out)) hb); clear HB; have HB := n0_; clear n0_; (try clear hb); (try clear hb2); (try clear hk); (try clear hi)) | (go_at_call 14; (with_reducible refine (guard_Seal.calls a0 t133 _ A24.out).mono ?_); rintro e w28 ⟨rfl, hb⟩; have n0_ := Aside0.mk (below_step (by repeat (first | (with_reducible first | exact HB.out | apply below_alloc | apply pw_below_drewN | apply below_drew1) | exact HB.out)) hb); clear HB; have HB := n0_; clear n0_; (try clear hb); (try clear hb2); (try clear hk); (try clear hi)))
                  go_ret
                  exact ⟨by first | rfl | (simp [errW_none, errW_some] <;> rfl) | (simp [*, errW_none, errW_some] <;> rfl), by repeat (first | (with_reducible first | exact HB.out | apply below_alloc | apply pw_below_drewN | apply below_drew1) | exact HB.out)⟩
                · rw [if_neg c23] at H
                  exact absurd H (by simp)
              · rw [if_neg c22] at H
                exact absurd H (by simp)
            · rw [if_neg c21] at H
              exact absurd H (by simp)
        · rw [if_neg c12] at H
          exact absurd H (by simp)

/-- THE ONE PURE STATEMENT of conventiclelaw02_GuardShort: yours. -/
def conventiclelaw02_GuardShort.Pure : Prop := ∀ (a0 : ByteArray), a0.size ≤ 140737488351232 → ∃ k, conventiclelaw02_GuardShort.f k a0 = some true
theorem conventiclelaw02_GuardShort.walk (P : conventiclelaw02_GuardShort.Pure) (a0 : ByteArray) (w : World) (w0 : a0.size ≤ 140737488351232) :
    Calls Try.prog 6 #[.string a0] w fun e w' => e = .returned (.bool true) ∧ Below w.heap.size w w' := by
  obtain ⟨k, h⟩ := P a0 w0
  refine (conventiclelaw02_GuardShort.calls k a0 true w h).mono ?_
  rintro e w' ⟨rfl, hd⟩
  exact ⟨rfl, hd⟩

-- NOT PRINTED: function 21 (guard_stepped)

-- NOT PRINTED: function 23 (guard_matrix_times)

-- NOT PRINTED: function 22 (guard_matrix_squared)

/-! ### conventicleref02_Join: function 17 -/
mutual
def conventicleref02_Join.l0 : Nat → Int → Int → Int → Int → Option (Int)
  | 0, _, _, _, _ => none
  | k + 1, x0, x1, x2, x7 => if x7 < x2 then (conventicleref02_Join.l1 k x0 x1 x2 x7 0) else (some (Go.bits .xor .u32 x0 x1))
def conventicleref02_Join.l1 : Nat → Int → Int → Int → Int → Int → Option (Int)
  | 0, _, _, _, _, _ => none
  | k + 1, x0, x1, x2, x7, x8 => if x8 < 8 then ((conventicleref02_Step.f x0).bind fun t134 => (conventicleref02_Join.l1 k t134 x1 x2 x7 (wrap64 (x8 + 1)))) else (conventicleref02_Join.l0 k x0 x1 x2 (wrap64 (x7 + 1)))
end
def conventicleref02_Join.f (k : Nat) (a0 : Int) (a1 : Int) (a2 : Int) : Option (Int) := conventicleref02_Join.l0 k a0 a1 a2 0
theorem conventicleref02_Join.mono_l : ∀ k, (∀ y0 y1 y2 y3, LeO (conventicleref02_Join.l0 k y0 y1 y2 y3) (conventicleref02_Join.l0 (k + 1) y0 y1 y2 y3)) ∧ (∀ y0 y1 y2 y3 y4, LeO (conventicleref02_Join.l1 k y0 y1 y2 y3 y4) (conventicleref02_Join.l1 (k + 1) y0 y1 y2 y3 y4))
  | 0 => ⟨fun _ _ _ _ r h => by simp [conventicleref02_Join.l0] at h, fun _ _ _ _ _ r h => by simp [conventicleref02_Join.l1] at h⟩
  | k + 1 => by
    obtain ⟨ih0, ih1⟩ := conventicleref02_Join.mono_l k
    refine ⟨?_, ?_⟩
    · intro y0 y1 y2 y3
      unfold conventicleref02_Join.l0
      repeat' first
      | (with_reducible exact ih0 _ _ _ _)
      | (with_reducible exact ih1 _ _ _ _ _)
      | (with_reducible exact LeO.refl _)
      | (with_reducible exact LeO.none _)
      | (with_reducible refine LeO.ite ?_ ?_)
      | (with_reducible refine LeO.bind ?_ (fun _ => ?_))
      | exact ih0 _ _ _ _
      | exact ih1 _ _ _ _ _
      | exact LeO.none _
      | refine LeO.ite ?_ ?_
      | refine LeO.bind ?_ (fun _ => ?_)
    · intro y0 y1 y2 y3 y4
      unfold conventicleref02_Join.l1
      repeat' first
      | (with_reducible exact ih0 _ _ _ _)
      | (with_reducible exact ih1 _ _ _ _ _)
      | (with_reducible exact LeO.refl _)
      | (with_reducible exact LeO.none _)
      | (with_reducible refine LeO.ite ?_ ?_)
      | (with_reducible refine LeO.bind ?_ (fun _ => ?_))
      | exact ih0 _ _ _ _
      | exact ih1 _ _ _ _ _
      | exact LeO.none _
      | refine LeO.ite ?_ ?_
      | refine LeO.bind ?_ (fun _ => ?_)
theorem conventicleref02_Join.mono : ∀ a0 a1 a2 k, LeO (conventicleref02_Join.f k a0 a1 a2) (conventicleref02_Join.f (k + 1) a0 a1 a2) := by
  intro a0 a1 a2 k
  obtain ⟨ih0, ih1⟩ := conventicleref02_Join.mono_l k
  unfold conventicleref02_Join.f
  repeat' first
      | (with_reducible exact ih0 _ _ _ _)
      | (with_reducible exact ih1 _ _ _ _ _)
      | (with_reducible exact LeO.refl _)
      | (with_reducible exact LeO.none _)
      | (with_reducible refine LeO.ite ?_ ?_)
      | (with_reducible refine LeO.bind ?_ (fun _ => ?_))
      | exact ih0 _ _ _ _
      | exact ih1 _ _ _ _ _
      | exact LeO.none _
      | refine LeO.ite ?_ ?_
      | refine LeO.bind ?_ (fun _ => ?_)
set_option maxHeartbeats 8000000 in
set_option maxRecDepth 100000 in
theorem conventicleref02_Join.calls (k : Nat) (a0 : Int) (a1 : Int) (a2 : Int) (r : Int) (w : World) (h : conventicleref02_Join.f k a0 a1 a2 = some r) :
    Calls Try.prog 17 #[.int .u32 a0, .int .u32 a1, .int .i64 a2] w fun e w' => e = .returned (.int .u32 r) ∧ Drawn0 w w' := by
  have H : (conventicleref02_Join.l0 k a0 a1 a2 0) = some r := h
  clear h
  have H' := Aside0.mk H
  clear H
  go_enter Try.func17, Try.ntmps17
  go_wp2
  go_loopg [0, 7] k (fun kq v0 v7 w' => ∃ (x0_1 : Int) (x7_1 : Int), v0 = .int .u32 x0_1 ∧ v7 = .int .i64 x7_1 ∧ Aside0 (conventicleref02_Join.l0 kq x0_1 a1 a2 x7_1 = some r) ∧ Aside0 (kq ≤ k) ∧ Drawn0 w w')
  case atStart => exact ⟨(a0), (0), (by first | rfl | (simp; done) | (simp [*]; done)), (by first | rfl | (simp; done) | (simp [*]; done)), H', ⟨Nat.le_refl _⟩, by repeat (first | exact Drawn0.refl _ | apply Drawn0.step)⟩
  case round =>
    clear H'
    try clear c1
    try clear p2
    obtain ⟨x0_1, x7_1, rfl, rfl, HA, HK1, ⟨m1, rfl⟩⟩ := hrel
    cases gk with
    | zero => exact absurd HA.out (by simp [conventicleref02_Join.l0])
    | succ k1 =>
      have H := HA.out
      clear HA
      simp only [conventicleref02_Join.l0] at H
      by_cases c4 : x7_1 < a2
      · rw [if_pos c4] at H
        have c4b0 : decide (x7_1 < a2) = true := decide_eq_true c4
        clear c4
        have H' := Aside0.mk H
        clear H
        go_wp2
        go_loopg [0, 8] k1 (fun kq v0 v8 w' => ∃ (x0_2 : Int) (x8_2 : Int), v0 = .int .u32 x0_2 ∧ v8 = .int .i64 x8_2 ∧ Aside0 (conventicleref02_Join.l1 kq x0_2 a1 a2 x7_1 x8_2 = some r) ∧ Aside0 (kq ≤ k1) ∧ Drawn0 w w')
        case atStart => exact ⟨(x0_1), (0), (by first | rfl | (simp; done) | (simp [*]; done)), (by first | rfl | (simp; done) | (simp [*]; done)), H', ⟨Nat.le_refl _⟩, by repeat (first | exact Drawn0.refl _ | apply Drawn0.step)⟩
        case round =>
          clear H'
          try clear c1
          try clear p2
          try clear c4
          try clear c4b0
          try clear p2
          obtain ⟨x0_2, x8_2, rfl, rfl, HA, HK2, ⟨m2, rfl⟩⟩ := hrel
          cases gk with
          | zero => exact absurd HA.out (by simp [conventicleref02_Join.l1])
          | succ k2 =>
            have H := HA.out
            clear HA
            simp only [conventicleref02_Join.l1] at H
            by_cases c5 : x8_2 < 8
            · rw [if_pos c5] at H
              have c5b0 : decide (x8_2 < 8) = true := decide_eq_true c5
              clear c5
              replace H := Option.bind_eq_some_iff.mp H
              obtain ⟨t134, A60, H⟩ := H
              replace H : (conventicleref02_Join.l1 k2 t134 a1 a2 x7_1 (wrap64 (x8_2 + 1))) = some r := H
              have A6 := Aside0.mk A60
              clear A60
              have H' := Aside0.mk H
              clear H
              go_wp2_with (first | ((with_reducible refine gate_callee (f := 20) rfl ?_); refine goesL_ (some 19) rfl rfl Try.func20 (by kernel_rfl) rfl #[.int .u32 x0_2] rfl (by (try simp only [List.map_toArray, List.map_cons, List.map_nil]); first | done | rfl | (simp only [List.length_drop, List.length_take]; rfl)) ?_; (with_reducible refine (conventicleref02_Step.calls x0_2 t134 _ A6.out).mono ?_); rintro e w' ⟨rfl, ⟨nd, rfl⟩⟩; refine ⟨_, rfl, ?_⟩))
              go_roundg k2
              case measure => have := HK1.out; have := HK2.out; omega
              case rel => exact ⟨(t134), (wrap64 (x8_2 + 1)), (by first | rfl | (simp; done) | (simp [*]; done)), (by first | rfl | (simp; done) | (simp [*]; done)), H', ⟨by have := HK1.out; have := HK2.out; omega⟩, by repeat (first | exact Drawn0.refl _ | apply Drawn0.step)⟩
            · rw [if_neg c5] at H
              have c5b0 : decide (x8_2 < 8) = false := decide_eq_false c5
              clear c5
              have H' := Aside0.mk H
              clear H
              go_wp2
              go_roundg k2
              case measure => have := HK1.out; have := HK2.out; omega
              case rel => exact ⟨(x0_2), (wrap64 (x7_1 + 1)), (by first | rfl | (simp; done) | (simp [*]; done)), (by first | rfl | (simp; done) | (simp [*]; done)), H', ⟨by have := HK1.out; have := HK2.out; omega⟩, by repeat (first | exact Drawn0.refl _ | apply Drawn0.step)⟩
      · rw [if_neg c4] at H
        have c4b0 : decide (x7_1 < a2) = false := decide_eq_false c4
        clear c4
        obtain rfl := Option.some.inj H
        go_wp2
        go_ret
        exact ⟨by first | rfl | (simp; done) | (simp [*]; done), by repeat (first | exact Drawn0.refl _ | apply Drawn0.step)⟩

/-! ### conventiclelaw02_GuardJoins: function 7 -/
def conventiclelaw02_GuardJoins.j0 : Nat → ByteArray → ByteArray → Int → Int → Int → Bool → Option (Bool)
  | 0, _, _, _, _, _, _ => none
  | k + 1, x0, x1, x2, x3, x4, x23 => if x23 = true then ((conventiclelaw02_shown.f).bind fun t136 => (some t136)) else ((guard_Sum.f x0).bind fun t137 => ((guard_Sum.f x1).bind fun t138 => ((guard_Join.f t137 t138 (x1.size : Int)).bind fun t139 => (if x0.size + x1.size ≤ 9223372036854775807 then ((guard_Sum.f (x0 ++ x1)).bind fun t140 => (if t139 = t140 then ((guard_Join.f x2 x3 (Int.tmod (wrap64 (x4)) 300)).bind fun t141 => ((conventicleref02_Join.f k x2 x3 (Int.tmod (wrap64 (x4)) 300)).bind fun t142 => (some (t141 == t142)))) else (none))) else (none)))))
def conventiclelaw02_GuardJoins.f (k : Nat) (a0 : ByteArray) (a1 : ByteArray) (a2 : Int) (a3 : Int) (a4 : Int) : Option (Bool) := if (a0.size : Int) > 1000 then (conventiclelaw02_GuardJoins.j0 k a0 a1 a2 a3 a4 true) else (if (a1.size : Int) > 1000 then (conventiclelaw02_GuardJoins.j0 k a0 a1 a2 a3 a4 true) else ((conventiclelaw02_shown.f).bind fun t135 => (conventiclelaw02_GuardJoins.j0 k a0 a1 a2 a3 a4 (!t135))))
theorem conventiclelaw02_GuardJoins.mono_l : ∀ k, (∀ y0 y1 y2 y3 y4 y5, LeO (conventiclelaw02_GuardJoins.j0 k y0 y1 y2 y3 y4 y5) (conventiclelaw02_GuardJoins.j0 (k + 1) y0 y1 y2 y3 y4 y5))
  | 0 => fun _ _ _ _ _ _ r h => by simp [conventiclelaw02_GuardJoins.j0] at h
  | k + 1 => by
    have ih0 := conventiclelaw02_GuardJoins.mono_l k
    · intro y0 y1 y2 y3 y4 y5
      unfold conventiclelaw02_GuardJoins.j0
      repeat' first
      | (with_reducible exact ih0 _ _ _ _ _ _)
      | (with_reducible exact conventicleref02_Join.mono _ _ _ _)
      | (with_reducible exact LeO.refl _)
      | (with_reducible exact LeO.none _)
      | (with_reducible refine LeO.ite ?_ ?_)
      | (with_reducible refine LeO.bind ?_ (fun _ => ?_))
      | exact ih0 _ _ _ _ _ _
      | exact conventicleref02_Join.mono _ _ _ _
      | exact LeO.none _
      | refine LeO.ite ?_ ?_
      | refine LeO.bind ?_ (fun _ => ?_)
theorem conventiclelaw02_GuardJoins.mono : ∀ a0 a1 a2 a3 a4 k, LeO (conventiclelaw02_GuardJoins.f k a0 a1 a2 a3 a4) (conventiclelaw02_GuardJoins.f (k + 1) a0 a1 a2 a3 a4) := by
  intro a0 a1 a2 a3 a4 k
  have ih0 := conventiclelaw02_GuardJoins.mono_l k
  unfold conventiclelaw02_GuardJoins.f
  repeat' first
      | (with_reducible exact ih0 _ _ _ _ _ _)
      | (with_reducible exact conventicleref02_Join.mono _ _ _ _)
      | (with_reducible exact LeO.refl _)
      | (with_reducible exact LeO.none _)
      | (with_reducible refine LeO.ite ?_ ?_)
      | (with_reducible refine LeO.bind ?_ (fun _ => ?_))
      | exact ih0 _ _ _ _ _ _
      | exact conventicleref02_Join.mono _ _ _ _
      | exact LeO.none _
      | refine LeO.ite ?_ ?_
      | refine LeO.bind ?_ (fun _ => ?_)
set_option maxHeartbeats 8000000 in
set_option maxRecDepth 100000 in
theorem conventiclelaw02_GuardJoins.calls (k : Nat) (a0 : ByteArray) (a1 : ByteArray) (a2 : Int) (a3 : Int) (a4 : Int) (r : Bool) (w : World) (h : conventiclelaw02_GuardJoins.f k a0 a1 a2 a3 a4 = some r) :
    Calls Try.prog 7 #[.string a0, .string a1, .int .u32 a2, .int .u32 a3, .int .i16 a4] w fun e w' => e = .returned (.bool r) ∧ Below w.heap.size w w' := by
  have HB := Aside0.mk (Below.refl w.heap.size w)
  have H : (if (a0.size : Int) > 1000 then (conventiclelaw02_GuardJoins.j0 k a0 a1 a2 a3 a4 true) else (if (a1.size : Int) > 1000 then (conventiclelaw02_GuardJoins.j0 k a0 a1 a2 a3 a4 true) else ((conventiclelaw02_shown.f).bind fun t135 => (conventiclelaw02_GuardJoins.j0 k a0 a1 a2 a3 a4 (!t135))))) = some r := h
  clear h
  have HC6 := Aside0.mk H
  clear H
  go_enter Try.func7, Try.ntmps7
  go_upto_region 1 with (fail)
  go_cut [23] (fun v23 wc => ∃ (kq : Nat) (x23_5 : Bool), v23 = .bool x23_5 ∧ Aside0 (conventiclelaw02_GuardJoins.j0 kq a0 a1 a2 a3 a4 x23_5 = some r) ∧ Aside0 (kq ≤ k) ∧ Aside0 (Below w.heap.size w wc))
  case first =>
    have H := HC6.out
    clear HC6
    by_cases c7 : (a0.size : Int) > 1000
    · rw [if_pos c7] at H
      have c7b0 : decide (1000 < (a0.size : Int)) = true := decide_eq_true c7
      have c7b1 : decide (1000 < a0.size) = true := decide_eq_true (by omega)
      clear c7
      (first | rw [c7b0] | (simp only [i64_w, i32_w]; rw [c7b0]) | skip)
      have H' := Aside0.mk H
      clear H
      go_wp2
      go_meet
      case rel => exact ⟨_, (true), (by first | rfl | (simp; done) | (simp [*]; done)), H', ⟨by first | omega | exact Nat.le_refl _⟩, ⟨by repeat (first | (with_reducible first | exact HB.out | apply below_alloc | apply pw_below_drewN | apply below_drew1) | exact HB.out)⟩⟩
    · rw [if_neg c7] at H
      have c7b0 : decide (1000 < (a0.size : Int)) = false := decide_eq_false c7
      have c7b1 : decide (1000 < a0.size) = false := decide_eq_false (by omega)
      clear c7
      (first | rw [c7b0] | (simp only [i64_w, i32_w]; rw [c7b0]) | skip)
      by_cases c8 : (a1.size : Int) > 1000
      · rw [if_pos c8] at H
        have c8b0 : decide (1000 < (a1.size : Int)) = true := decide_eq_true c8
        have c8b1 : decide (1000 < a1.size) = true := decide_eq_true (by omega)
        clear c8
        have H' := Aside0.mk H
        clear H
        go_wp2
        go_meet
        case rel => exact ⟨_, (true), (by first | rfl | (simp; done) | (simp [*]; done)), H', ⟨by first | omega | exact Nat.le_refl _⟩, ⟨by repeat (first | (with_reducible first | exact HB.out | apply below_alloc | apply pw_below_drewN | apply below_drew1) | exact HB.out)⟩⟩
      · rw [if_neg c8] at H
        have c8b0 : decide (1000 < (a1.size : Int)) = false := decide_eq_false c8
        have c8b1 : decide (1000 < a1.size) = false := decide_eq_false (by omega)
        clear c8
        replace H := Option.bind_eq_some_iff.mp H
        obtain ⟨t135, A90, H⟩ := H
        replace H : (conventiclelaw02_GuardJoins.j0 k a0 a1 a2 a3 a4 (!t135)) = some r := H
        have A9 := Aside0.mk A90
        clear A90
        have H' := Aside0.mk H
        clear H
        go_wp2_with (first | (go_at_call 9; (with_reducible refine (conventiclelaw02_shown.calls  t135 _ A9.out).mono ?_); rintro e w10 ⟨rfl, hb⟩; have n0_ := Aside0.mk (below_step (by repeat (first | (with_reducible first | exact HB.out | apply below_alloc | apply pw_below_drewN | apply below_drew1) | exact HB.out)) hb); clear HB; have HB := n0_; clear n0_; (try clear hb); (try clear hb2); (try clear hk); (try clear hi)))
        go_meet
        case rel => exact ⟨_, (!t135), (by first | rfl | (simp; done) | (simp [*]; done)), H', ⟨by first | omega | exact Nat.le_refl _⟩, ⟨by repeat (first | (with_reducible first | exact HB.out | apply below_alloc | apply pw_below_drewN | apply below_drew1) | exact HB.out)⟩⟩
  case rest =>
    clear HC6
    try clear p2
    try clear c7
    try clear c7b0
    try clear c7b1
    try clear c8
    try clear c8b0
    try clear c8b1
    obtain ⟨kq, x23_5, rfl, HA, HJ5, HB⟩ := hcut
    cases kq with
    | zero => exact absurd HA.out (by simp [conventiclelaw02_GuardJoins.j0])
    | succ kj5 =>
      have H := HA.out
      clear HA
      simp only [conventiclelaw02_GuardJoins.j0] at H
      by_cases c11 : x23_5 = true
      · subst c11
        have H1 : ((conventiclelaw02_shown.f).bind fun t136 => (some t136)) = some r := by rw [if_pos rfl] at H; exact H
        clear H
        have H := H1
        clear H1
        replace H := Option.bind_eq_some_iff.mp H
        obtain ⟨t136, A120, H⟩ := H
        replace H : (some t136) = some r := H
        have A12 := Aside0.mk A120
        clear A120
        obtain rfl := Option.some.inj H
        go_wp2_with (first | ((with_reducible refine gate_callee (f := 9) rfl ?_); refine goesL_ (some 24) rfl rfl Try.func9 (by kernel_rfl) rfl #[] rfl (by (try simp only [List.map_toArray, List.map_cons, List.map_nil]); first | done | rfl | (simp only [List.length_drop, List.length_take]; rfl)) ?_; (with_reducible refine (conventiclelaw02_shown.calls  t136 _ A12.out).mono ?_); rintro e w13 ⟨rfl, hb⟩; refine ⟨_, rfl, ?_⟩; have n0_ := Aside0.mk (below_step (by repeat (first | (with_reducible first | exact HB.out | apply below_alloc | apply pw_below_drewN | apply below_drew1) | exact HB.out)) hb); clear HB; have HB := n0_; clear n0_; (try clear hb); (try clear hb2); (try clear hk); (try clear hi)))
        go_ret
        exact ⟨by first | rfl | (simp [errW_none, errW_some] <;> rfl) | (simp [*, errW_none, errW_some] <;> rfl), by repeat (first | (with_reducible first | exact HB.out | apply below_alloc | apply pw_below_drewN | apply below_drew1) | exact HB.out)⟩
      · replace c11 := Bool.eq_false_iff.mpr c11
        subst c11
        have H1 : ((guard_Sum.f a0).bind fun t137 => ((guard_Sum.f a1).bind fun t138 => ((guard_Join.f t137 t138 (a1.size : Int)).bind fun t139 => (if a0.size + a1.size ≤ 9223372036854775807 then ((guard_Sum.f (a0 ++ a1)).bind fun t140 => (if t139 = t140 then ((guard_Join.f a2 a3 (Int.tmod (wrap64 (a4)) 300)).bind fun t141 => ((conventicleref02_Join.f kj5 a2 a3 (Int.tmod (wrap64 (a4)) 300)).bind fun t142 => (some (t141 == t142)))) else (none))) else (none))))) = some r := by rw [if_neg (show ¬ (false = true) by decide)] at H; exact H
        clear H
        have H := H1
        clear H1
        replace H := Option.bind_eq_some_iff.mp H
        obtain ⟨t137, A140, H⟩ := H
        replace H : ((guard_Sum.f a1).bind fun t138 => ((guard_Join.f t137 t138 (a1.size : Int)).bind fun t139 => (if a0.size + a1.size ≤ 9223372036854775807 then ((guard_Sum.f (a0 ++ a1)).bind fun t140 => (if t139 = t140 then ((guard_Join.f a2 a3 (Int.tmod (wrap64 (a4)) 300)).bind fun t141 => ((conventicleref02_Join.f kj5 a2 a3 (Int.tmod (wrap64 (a4)) 300)).bind fun t142 => (some (t141 == t142)))) else (none))) else (none)))) = some r := H
        have A14 := Aside0.mk A140
        clear A140
        replace H := Option.bind_eq_some_iff.mp H
        obtain ⟨t138, A150, H⟩ := H
        replace H : ((guard_Join.f t137 t138 (a1.size : Int)).bind fun t139 => (if a0.size + a1.size ≤ 9223372036854775807 then ((guard_Sum.f (a0 ++ a1)).bind fun t140 => (if t139 = t140 then ((guard_Join.f a2 a3 (Int.tmod (wrap64 (a4)) 300)).bind fun t141 => ((conventicleref02_Join.f kj5 a2 a3 (Int.tmod (wrap64 (a4)) 300)).bind fun t142 => (some (t141 == t142)))) else (none))) else (none))) = some r := H
        have A15 := Aside0.mk A150
        clear A150
        replace H := Option.bind_eq_some_iff.mp H
        obtain ⟨t139, A160, H⟩ := H
        replace H : (if a0.size + a1.size ≤ 9223372036854775807 then ((guard_Sum.f (a0 ++ a1)).bind fun t140 => (if t139 = t140 then ((guard_Join.f a2 a3 (Int.tmod (wrap64 (a4)) 300)).bind fun t141 => ((conventicleref02_Join.f kj5 a2 a3 (Int.tmod (wrap64 (a4)) 300)).bind fun t142 => (some (t141 == t142)))) else (none))) else (none)) = some r := H
        have A16 := Aside0.mk A160
        clear A160
        by_cases c17 : a0.size + a1.size ≤ 9223372036854775807
        · rw [if_pos c17] at H
          have c17b0 := eq_true c17
          have c17b1 : decide (a0.size + a1.size ≤ 9223372036854775807) = true := decide_eq_true c17
          try have c17b2 : (9223372036854775807 < a0.size + a1.size) = False := eq_false (Nat.not_lt.2 c17)
          replace H := Option.bind_eq_some_iff.mp H
          obtain ⟨t140, A180, H⟩ := H
          replace H : (if t139 = t140 then ((guard_Join.f a2 a3 (Int.tmod (wrap64 (a4)) 300)).bind fun t141 => ((conventicleref02_Join.f kj5 a2 a3 (Int.tmod (wrap64 (a4)) 300)).bind fun t142 => (some (t141 == t142)))) else (none)) = some r := H
          have A18 := Aside0.mk A180
          clear A180
          by_cases c19 : t139 = t140
          · rw [if_pos c19] at H
            have c19b0 : (t139 == t140) = true := beq_iff_eq.mpr c19
            have c19b1 : (t139 != t140) = false := bne_eq_false_iff_eq.mpr c19
            clear c19
            replace H := Option.bind_eq_some_iff.mp H
            obtain ⟨t141, A200, H⟩ := H
            replace H : ((conventicleref02_Join.f kj5 a2 a3 (Int.tmod (wrap64 (a4)) 300)).bind fun t142 => (some (t141 == t142))) = some r := H
            have A20 := Aside0.mk A200
            clear A200
            replace H := Option.bind_eq_some_iff.mp H
            obtain ⟨t142, A210, H⟩ := H
            replace H : (some (t141 == t142)) = some r := H
            have A21 := Aside0.mk A210
            clear A210
            obtain rfl := Option.some.inj H
            go_wp2_with (first | ((with_reducible refine gate_callee (f := 10) rfl ?_); refine goesL_ (some 29) rfl rfl Try.func10 (by kernel_rfl) rfl #[.string a0] rfl (by (try simp only [List.map_toArray, List.map_cons, List.map_nil]); first | done | rfl | (simp only [List.length_drop, List.length_take]; rfl)) ?_; (with_reducible refine (guard_Sum.calls a0 t137 _ A14.out).mono ?_); rintro e w22 ⟨rfl, hb⟩; refine ⟨_, rfl, ?_⟩; have n0_ := Aside0.mk (below_step (by repeat (first | (with_reducible first | exact HB.out | apply below_alloc | apply pw_below_drewN | apply below_drew1) | exact HB.out)) hb); clear HB; have HB := n0_; clear n0_; (try clear hb); (try clear hb2); (try clear hk); (try clear hi)) | ((with_reducible refine gate_callee (f := 10) rfl ?_); refine goesL_ (some 31) rfl rfl Try.func10 (by kernel_rfl) rfl #[.string a1] rfl (by (try simp only [List.map_toArray, List.map_cons, List.map_nil]); first | done | rfl | (simp only [List.length_drop, List.length_take]; rfl)) ?_; (with_reducible refine (guard_Sum.calls a1 t138 _ A15.out).mono ?_); rintro e w23 ⟨rfl, hb⟩; refine ⟨_, rfl, ?_⟩; have n0_ := Aside0.mk (below_step (by repeat (first | (with_reducible first | exact HB.out | apply below_alloc | apply pw_below_drewN | apply below_drew1) | exact HB.out)) hb); clear HB; have HB := n0_; clear n0_; (try clear hb); (try clear hb2); (try clear hk); (try clear hi)) | ((with_reducible refine gate_callee (f := 16) rfl ?_); refine goesL_ (some 34) rfl rfl Try.func16 (by kernel_rfl) rfl #[.int .u32 t137, .int .u32 t138, .int .i64 (a1.size : Int)] rfl (by (try simp only [List.map_toArray, List.map_cons, List.map_nil]); first | done | rfl | (simp only [List.length_drop, List.length_take]; rfl)) ?_; (with_reducible refine (guard_Join.calls t137 t138 (a1.size : Int) t139 _ A16.out).mono ?_); rintro e w24 ⟨rfl, hb⟩; refine ⟨_, rfl, ?_⟩; have n0_ := Aside0.mk (below_step (by repeat (first | (with_reducible first | exact HB.out | apply below_alloc | apply pw_below_drewN | apply below_drew1) | exact HB.out)) hb); clear HB; have HB := n0_; clear n0_; (try clear hb); (try clear hb2); (try clear hk); (try clear hi)) | ((with_reducible refine gate_callee (f := 10) rfl ?_); refine goesL_ (some 38) rfl rfl Try.func10 (by kernel_rfl) rfl #[.string (a0 ++ a1)] rfl (by (try simp only [List.map_toArray, List.map_cons, List.map_nil]); first | done | rfl | (simp only [List.length_drop, List.length_take]; rfl)) ?_; (with_reducible refine (guard_Sum.calls (a0 ++ a1) t140 _ A18.out).mono ?_); rintro e w25 ⟨rfl, hb⟩; refine ⟨_, rfl, ?_⟩; have n0_ := Aside0.mk (below_step (by repeat (first | (with_reducible first | exact HB.out | apply below_alloc | apply pw_below_drewN | apply below_drew1) | exact HB.out)) hb); clear HB; have HB := n0_; clear n0_; (try clear hb); (try clear hb2); (try clear hk); (try clear hi)) | (go_at_call 16; (with_reducible refine (guard_Join.calls a2 a3 (Int.tmod (wrap64 (a4)) 300) t141 _ A20.out).mono ?_); rintro e w26 ⟨rfl, hb⟩; have n0_ := Aside0.mk (below_step (by repeat (first | (with_reducible first | exact HB.out | apply below_alloc | apply pw_below_drewN | apply below_drew1) | exact HB.out)) hb); clear HB; have HB := n0_; clear n0_; (try clear hb); (try clear hb2); (try clear hk); (try clear hi)) | (go_at_call 17; (with_reducible refine (conventicleref02_Join.calls kj5 a2 a3 (Int.tmod (wrap64 (a4)) 300) t142 _ A21.out).mono ?_); rintro e w' ⟨rfl, ⟨nd, rfl⟩⟩))
            go_ret
            exact ⟨by first | rfl | (simp [errW_none, errW_some] <;> rfl) | (simp [*, errW_none, errW_some] <;> rfl), by repeat (first | (with_reducible first | exact HB.out | apply below_alloc | apply pw_below_drewN | apply below_drew1) | exact HB.out)⟩
          · rw [if_neg c19] at H
            exact absurd H (by simp)
        · rw [if_neg c17] at H
          exact absurd H (by simp)

/-- THE ONE PURE STATEMENT of conventiclelaw02_GuardJoins: yours. -/
def conventiclelaw02_GuardJoins.Pure : Prop := ∀ (a0 : ByteArray) (a1 : ByteArray) (a2 : Int) (a3 : Int) (a4 : Int), a0.size ≤ 140737488351232 → a1.size ≤ 140737488351232 → (Lit.int .u32 a2).wf = true → (Lit.int .u32 a3).wf = true → (Lit.int .i16 a4).wf = true → ∃ k, conventiclelaw02_GuardJoins.f k a0 a1 a2 a3 a4 = some true
theorem conventiclelaw02_GuardJoins.walk (P : conventiclelaw02_GuardJoins.Pure) (a0 : ByteArray) (a1 : ByteArray) (a2 : Int) (a3 : Int) (a4 : Int) (w : World) (w0 : a0.size ≤ 140737488351232) (w1 : a1.size ≤ 140737488351232) (w2 : (Lit.int .u32 a2).wf = true) (w3 : (Lit.int .u32 a3).wf = true) (w4 : (Lit.int .i16 a4).wf = true) :
    Calls Try.prog 7 #[.string a0, .string a1, .int .u32 a2, .int .u32 a3, .int .i16 a4] w fun e w' => e = .returned (.bool true) ∧ Below w.heap.size w w' := by
  obtain ⟨k, h⟩ := P a0 a1 a2 a3 a4 w0 w1 w2 w3 w4
  refine (conventiclelaw02_GuardJoins.calls k a0 a1 a2 a3 a4 true w h).mono ?_
  rintro e w' ⟨rfl, hd⟩
  exact ⟨rfl, hd⟩

/-! ### conventiclelaw02_GuardParts: function 8 -/
def conventiclelaw02_GuardParts.f (a0 : Int) (a1 : Int) (a2 : Int) (a3 : Int) (a4 : Int) : Option (Bool) := (guard_Join.f a0 0 0).bind fun t143 => (if t143 = a0 then ((guard_Join.f a0 a1 (-1)).bind fun t144 => (if t144 = (Go.bits .xor .u32 a0 a1) then ((guard_Join.f a0 a1 (wrap64 (a3))).bind fun t145 => ((guard_Join.f t145 a2 (wrap64 (a4))).bind fun t146 => ((guard_Join.f a1 a2 (wrap64 (a4))).bind fun t147 => ((guard_Join.f a0 t147 (wrap64 ((wrap64 (a3)) + (wrap64 (a4))))).bind fun t148 => (if t146 = t148 then ((conventiclelaw02_shown.f).bind fun t149 => (some t149)) else (none)))))) else (none))) else (none))
set_option maxHeartbeats 8000000 in
set_option maxRecDepth 100000 in
theorem conventiclelaw02_GuardParts.calls (a0 : Int) (a1 : Int) (a2 : Int) (a3 : Int) (a4 : Int) (r : Bool) (w : World) (h : conventiclelaw02_GuardParts.f a0 a1 a2 a3 a4 = some r) :
    Calls Try.prog 8 #[.int .u32 a0, .int .u32 a1, .int .u32 a2, .int .u8 a3, .int .u8 a4] w fun e w' => e = .returned (.bool r) ∧ Below w.heap.size w w' := by
  have HB := Aside0.mk (Below.refl w.heap.size w)
  have H : ((guard_Join.f a0 0 0).bind fun t143 => (if t143 = a0 then ((guard_Join.f a0 a1 (-1)).bind fun t144 => (if t144 = (Go.bits .xor .u32 a0 a1) then ((guard_Join.f a0 a1 (wrap64 (a3))).bind fun t145 => ((guard_Join.f t145 a2 (wrap64 (a4))).bind fun t146 => ((guard_Join.f a1 a2 (wrap64 (a4))).bind fun t147 => ((guard_Join.f a0 t147 (wrap64 ((wrap64 (a3)) + (wrap64 (a4))))).bind fun t148 => (if t146 = t148 then ((conventiclelaw02_shown.f).bind fun t149 => (some t149)) else (none)))))) else (none))) else (none))) = some r := h
  clear h
  replace H := Option.bind_eq_some_iff.mp H
  obtain ⟨t143, A60, H⟩ := H
  replace H : (if t143 = a0 then ((guard_Join.f a0 a1 (-1)).bind fun t144 => (if t144 = (Go.bits .xor .u32 a0 a1) then ((guard_Join.f a0 a1 (wrap64 (a3))).bind fun t145 => ((guard_Join.f t145 a2 (wrap64 (a4))).bind fun t146 => ((guard_Join.f a1 a2 (wrap64 (a4))).bind fun t147 => ((guard_Join.f a0 t147 (wrap64 ((wrap64 (a3)) + (wrap64 (a4))))).bind fun t148 => (if t146 = t148 then ((conventiclelaw02_shown.f).bind fun t149 => (some t149)) else (none)))))) else (none))) else (none)) = some r := H
  have A6 := Aside0.mk A60
  clear A60
  by_cases c7 : t143 = a0
  · rw [if_pos c7] at H
    have c7b0 : (t143 == a0) = true := beq_iff_eq.mpr c7
    have c7b1 : (t143 != a0) = false := bne_eq_false_iff_eq.mpr c7
    clear c7
    replace H := Option.bind_eq_some_iff.mp H
    obtain ⟨t144, A80, H⟩ := H
    replace H : (if t144 = (Go.bits .xor .u32 a0 a1) then ((guard_Join.f a0 a1 (wrap64 (a3))).bind fun t145 => ((guard_Join.f t145 a2 (wrap64 (a4))).bind fun t146 => ((guard_Join.f a1 a2 (wrap64 (a4))).bind fun t147 => ((guard_Join.f a0 t147 (wrap64 ((wrap64 (a3)) + (wrap64 (a4))))).bind fun t148 => (if t146 = t148 then ((conventiclelaw02_shown.f).bind fun t149 => (some t149)) else (none)))))) else (none)) = some r := H
    have A8 := Aside0.mk A80
    clear A80
    by_cases c9 : t144 = (Go.bits .xor .u32 a0 a1)
    · rw [if_pos c9] at H
      have c9b0 : (t144 == (Go.bits .xor .u32 a0 a1)) = true := beq_iff_eq.mpr c9
      have c9b1 : (t144 != (Go.bits .xor .u32 a0 a1)) = false := bne_eq_false_iff_eq.mpr c9
      clear c9
      replace H := Option.bind_eq_some_iff.mp H
      obtain ⟨t145, A100, H⟩ := H
      replace H : ((guard_Join.f t145 a2 (wrap64 (a4))).bind fun t146 => ((guard_Join.f a1 a2 (wrap64 (a4))).bind fun t147 => ((guard_Join.f a0 t147 (wrap64 ((wrap64 (a3)) + (wrap64 (a4))))).bind fun t148 => (if t146 = t148 then ((conventiclelaw02_shown.f).bind fun t149 => (some t149)) else (none))))) = some r := H
      have A10 := Aside0.mk A100
      clear A100
      replace H := Option.bind_eq_some_iff.mp H
      obtain ⟨t146, A110, H⟩ := H
      replace H : ((guard_Join.f a1 a2 (wrap64 (a4))).bind fun t147 => ((guard_Join.f a0 t147 (wrap64 ((wrap64 (a3)) + (wrap64 (a4))))).bind fun t148 => (if t146 = t148 then ((conventiclelaw02_shown.f).bind fun t149 => (some t149)) else (none)))) = some r := H
      have A11 := Aside0.mk A110
      clear A110
      replace H := Option.bind_eq_some_iff.mp H
      obtain ⟨t147, A120, H⟩ := H
      replace H : ((guard_Join.f a0 t147 (wrap64 ((wrap64 (a3)) + (wrap64 (a4))))).bind fun t148 => (if t146 = t148 then ((conventiclelaw02_shown.f).bind fun t149 => (some t149)) else (none))) = some r := H
      have A12 := Aside0.mk A120
      clear A120
      replace H := Option.bind_eq_some_iff.mp H
      obtain ⟨t148, A130, H⟩ := H
      replace H : (if t146 = t148 then ((conventiclelaw02_shown.f).bind fun t149 => (some t149)) else (none)) = some r := H
      have A13 := Aside0.mk A130
      clear A130
      by_cases c14 : t146 = t148
      · rw [if_pos c14] at H
        have c14b0 : (t146 == t148) = true := beq_iff_eq.mpr c14
        have c14b1 : (t146 != t148) = false := bne_eq_false_iff_eq.mpr c14
        clear c14
        replace H := Option.bind_eq_some_iff.mp H
        obtain ⟨t149, A150, H⟩ := H
        replace H : (some t149) = some r := H
        have A15 := Aside0.mk A150
        clear A150
        obtain rfl := Option.some.inj H
        go_enter Try.func8, Try.ntmps8
        go_wp2_with (first | ((with_reducible refine gate_dst (N := 14) rfl ?_); refine PrintFn.goesLF_ (some 14) rfl rfl Try.func16 (by kernel_rfl) rfl #[.int .u32 a0, .int .u32 0, .int .i64 0] rfl (by (try simp only [List.map_toArray, List.map_cons, List.map_nil]); first | done | rfl | (simp only [List.length_drop, List.length_take]; rfl)) ?_; (with_reducible refine (guard_Join.calls a0 0 0 t143 _ A6.out).mono ?_); rintro e w16 ⟨rfl, hb⟩; refine ⟨_, rfl, ?_⟩; have n0_ := Aside0.mk (below_step (by repeat (first | (with_reducible first | exact HB.out | apply below_alloc | apply pw_below_drewN | apply below_drew1) | exact HB.out)) hb); clear HB; have HB := n0_; clear n0_; (try clear hb); (try clear hb2); (try clear hk); (try clear hi)) | (go_at_call 16; (with_reducible refine (guard_Join.calls a0 a1 (-1) t144 _ A8.out).mono ?_); rintro e w17 ⟨rfl, hb⟩; have n0_ := Aside0.mk (below_step (by repeat (first | (with_reducible first | exact HB.out | apply below_alloc | apply pw_below_drewN | apply below_drew1) | exact HB.out)) hb); clear HB; have HB := n0_; clear n0_; (try clear hb); (try clear hb2); (try clear hk); (try clear hi)) | (go_at_call 16; (with_reducible refine (guard_Join.calls a0 a1 (wrap64 (a3)) t145 _ A10.out).mono ?_); rintro e w18 ⟨rfl, hb⟩; have n0_ := Aside0.mk (below_step (by repeat (first | (with_reducible first | exact HB.out | apply below_alloc | apply pw_below_drewN | apply below_drew1) | exact HB.out)) hb); clear HB; have HB := n0_; clear n0_; (try clear hb); (try clear hb2); (try clear hk); (try clear hi)) | (go_at_call 16; (with_reducible refine (guard_Join.calls t145 a2 (wrap64 (a4)) t146 _ A11.out).mono ?_); rintro e w19 ⟨rfl, hb⟩; have n0_ := Aside0.mk (below_step (by repeat (first | (with_reducible first | exact HB.out | apply below_alloc | apply pw_below_drewN | apply below_drew1) | exact HB.out)) hb); clear HB; have HB := n0_; clear n0_; (try clear hb); (try clear hb2); (try clear hk); (try clear hi)) | (go_at_call 16; (with_reducible refine (guard_Join.calls a1 a2 (wrap64 (a4)) t147 _ A12.out).mono ?_); rintro e w20 ⟨rfl, hb⟩; have n0_ := Aside0.mk (below_step (by repeat (first | (with_reducible first | exact HB.out | apply below_alloc | apply pw_below_drewN | apply below_drew1) | exact HB.out)) hb); clear HB; have HB := n0_; clear n0_; (try clear hb); (try clear hb2); (try clear hk); (try clear hi)) | (go_at_call 16; (with_reducible refine (guard_Join.calls a0 t147 (wrap64 ((wrap64 (a3)) + (wrap64 (a4)))) t148 _ A13.out).mono ?_); rintro e w21 ⟨rfl, hb⟩; have n0_ := Aside0.mk (below_step (by repeat (first | (with_reducible first | exact HB.out | apply below_alloc | apply pw_below_drewN | apply below_drew1) | exact HB.out)) hb); clear HB; have HB := n0_; clear n0_; (try clear hb); (try clear hb2); (try clear hk); (try clear hi)) | (go_at_call 9; (with_reducible refine (conventiclelaw02_shown.calls  t149 _ A15.out).mono ?_); rintro e w22 ⟨rfl, hb⟩; have n0_ := Aside0.mk (below_step (by repeat (first | (with_reducible first | exact HB.out | apply below_alloc | apply pw_below_drewN | apply below_drew1) | exact HB.out)) hb); clear HB; have HB := n0_; clear n0_; (try clear hb); (try clear hb2); (try clear hk); (try clear hi)))
        go_ret
        exact ⟨by first | rfl | (simp [errW_none, errW_some] <;> rfl) | (simp [*, errW_none, errW_some] <;> rfl), by repeat (first | (with_reducible first | exact HB.out | apply below_alloc | apply pw_below_drewN | apply below_drew1) | exact HB.out)⟩
      · rw [if_neg c14] at H
        exact absurd H (by simp)
    · rw [if_neg c9] at H
      exact absurd H (by simp)
  · rw [if_neg c7] at H
    exact absurd H (by simp)

/-- THE ONE PURE STATEMENT of conventiclelaw02_GuardParts: yours. -/
def conventiclelaw02_GuardParts.Pure : Prop := ∀ (a0 : Int) (a1 : Int) (a2 : Int) (a3 : Int) (a4 : Int), (Lit.int .u32 a0).wf = true → (Lit.int .u32 a1).wf = true → (Lit.int .u32 a2).wf = true → (Lit.int .u8 a3).wf = true → (Lit.int .u8 a4).wf = true → conventiclelaw02_GuardParts.f a0 a1 a2 a3 a4 = some true
theorem conventiclelaw02_GuardParts.walk (P : conventiclelaw02_GuardParts.Pure) (a0 : Int) (a1 : Int) (a2 : Int) (a3 : Int) (a4 : Int) (w : World) (w0 : (Lit.int .u32 a0).wf = true) (w1 : (Lit.int .u32 a1).wf = true) (w2 : (Lit.int .u32 a2).wf = true) (w3 : (Lit.int .u8 a3).wf = true) (w4 : (Lit.int .u8 a4).wf = true) :
    Calls Try.prog 8 #[.int .u32 a0, .int .u32 a1, .int .u32 a2, .int .u8 a3, .int .u8 a4] w fun e w' => e = .returned (.bool true) ∧ Below w.heap.size w w' := by
  have h := P a0 a1 a2 a3 a4 w0 w1 w2 w3 w4
  refine (conventiclelaw02_GuardParts.calls a0 a1 a2 a3 a4 true w h).mono ?_
  rintro e w' ⟨rfl, hd⟩
  exact ⟨rfl, hd⟩

end Go.Proofs.Ytkbjbpgclhlmpaa.B
