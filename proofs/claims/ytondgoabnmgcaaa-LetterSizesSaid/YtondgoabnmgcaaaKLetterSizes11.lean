/- Texts of this claim, one behind the other (joined by pack.py): Ext B10 OFrames ORealLaw. -/
import Derived.Test.YtondgoabnmgcaaaKLetterSizes10
import Derived.Test.YtondgoabnmgcaaaKLetterSizes7
section
/- By hand: Signbit. -/
namespace Go.Proofs.Ytondgoabnmgcaaa.B
open Go.RowKit Go.Proofs.YtondgoabnmgcaaaW.PrintWords Go.Proofs.YtondgoabnmgcaaaW.PrintLast Go.Proofs.YtondgoabnmgcaaaW.PrintMore
set_option linter.unusedSimpArgs false
set_option linter.unusedVariables false
def math_Signbit.f (x : Nat) : Option Bool := some (decide (wrap64 (x : Int) < 0))
theorem math_Signbit.calls (x : Nat) (r : Bool) (w : World) (h : math_Signbit.f x = some r) :
    Calls Try.prog 55 #[.float .f64 x] w fun e w' => e = .returned (.bool r) ∧ Drawn0 w w' := by
  obtain rfl := Option.some.inj h
  clear h
  have HF := Go.Proofs.YtondgoabnmgcaaaO.R.bits_run x
  go_enter Try.func55, Try.ntmps55
  go_wp2
  go_ret
  exact ⟨rfl, Drawn0.refl _⟩
end Go.Proofs.Ytondgoabnmgcaaa.B
end
section
namespace Go.Proofs.Ytondgoabnmgcaaa.B
open Go.RowKit Go.Proofs.YtondgoabnmgcaaaW.PrintWords Go.Proofs.YtondgoabnmgcaaaW.PrintLast Go.Proofs.YtondgoabnmgcaaaW.PrintMore
attribute [local go_sem] max2_int min2_int max_two min_two max_three min_three max_four min_four   -- for this text's walks alone
set_option linter.unusedVariables false
set_option linter.unusedSimpArgs false

/-! ### conventiclelaw15_heavy: function 15 -/
mutual
def conventiclelaw15_heavy.j0 : Nat → Bool → Int → Int → Int → Int → Int → List (S70) → Int → Int → Int → Int → Int → Int → Int → List (S53) → List (S77) → Nat → Option (Bool)
  | 0, _, _, _, _, _, _, _, _, _, _, _, _, _, _, _, _, _ => none
  | k + 1, x19, x224000, x224001, x224002, x224003, x224004, x224005, x224006, x224007, x224008, x224009, x224010, x224011, x224012, x224013, x224014, x224015 => if x19 = true then (some true) else (conventiclelaw15_heavy.l0 k 0 x224000 x224001 x224002 x224003 x224004 x224005 x224006 x224007 x224008 x224009 x224010 x224011 x224012 x224013 x224014 x224015)
def conventiclelaw15_heavy.l0 : Nat → Int → Int → Int → Int → Int → Int → List (S70) → Int → Int → Int → Int → Int → Int → Int → List (S53) → List (S77) → Nat → Option (Bool)
  | 0, _, _, _, _, _, _, _, _, _, _, _, _, _, _, _, _, _ => none
  | k + 1, x3, x224000, x224001, x224002, x224003, x224004, x224005, x224006, x224007, x224008, x224009, x224010, x224011, x224012, x224013, x224014, x224015 => if x3 < (x224013.length : Int) then (if 0 ≤ x3 then (if (((rd_T53 x224013 x3).f1.f2).size : Int) > 100 then (some true) else (conventiclelaw15_heavy.l0 k (wrap64 (x3 + 1)) x224000 x224001 x224002 x224003 x224004 x224005 x224006 x224007 x224008 x224009 x224010 x224011 x224012 x224013 x224014 x224015)) else (none)) else (some false)
end
def conventiclelaw15_heavy.f (k : Nat) (a0_0 : Int) (a0_1 : Int) (a0_2 : Int) (a0_3 : Int) (a0_4 : Int) (l0_5 : List (S70)) (a0_6 : Int) (a0_7 : Int) (a0_8 : Int) (a0_9 : Int) (a0_10 : Int) (a0_11 : Int) (a0_12 : Int) (l0_13 : List (S53)) (l0_14 : List (S77)) (a0_15 : Nat) : Option (Bool) := if (l0_5.length : Int) > 30 then (conventiclelaw15_heavy.j0 k true a0_0 a0_1 a0_2 a0_3 a0_4 l0_5 a0_6 a0_7 a0_8 a0_9 a0_10 a0_11 a0_12 l0_13 l0_14 a0_15) else (if (l0_13.length : Int) > 30 then (conventiclelaw15_heavy.j0 k true a0_0 a0_1 a0_2 a0_3 a0_4 l0_5 a0_6 a0_7 a0_8 a0_9 a0_10 a0_11 a0_12 l0_13 l0_14 a0_15) else (conventiclelaw15_heavy.j0 k (decide ((l0_14.length : Int) > 40)) a0_0 a0_1 a0_2 a0_3 a0_4 l0_5 a0_6 a0_7 a0_8 a0_9 a0_10 a0_11 a0_12 l0_13 l0_14 a0_15))
set_option maxHeartbeats 8000000 in
set_option maxRecDepth 100000 in
theorem conventiclelaw15_heavy.calls (k : Nat) (a0_0 : Int) (a0_1 : Int) (a0_2 : Int) (a0_3 : Int) (a0_4 : Int) (A0_5 : Option Addr) (c0_5 : Nat) (l0_5 : List (S70)) (a0_6 : Int) (a0_7 : Int) (a0_8 : Int) (a0_9 : Int) (a0_10 : Int) (a0_11 : Int) (a0_12 : Int) (A0_13 : Option Addr) (c0_13 : Nat) (l0_13 : List (S53)) (A0_14 : Option Addr) (c0_14 : Nat) (l0_14 : List (S77)) (a0_15 : Nat) (r : Bool) (w : World) (hr0_5 : Kd.C k70 w A0_5 l0_5.length l0_5) (hc0_5 : l0_5.length ≤ c0_5) (hr0_13 : Kd.C k53 w A0_13 l0_13.length l0_13) (hc0_13 : l0_13.length ≤ c0_13) (hr0_14 : Kd.C k77 w A0_14 l0_14.length l0_14) (hc0_14 : l0_14.length ≤ c0_14) (h : conventiclelaw15_heavy.f k a0_0 a0_1 a0_2 a0_3 a0_4 l0_5 a0_6 a0_7 a0_8 a0_9 a0_10 a0_11 a0_12 l0_13 l0_14 a0_15 = some r) :
    Calls Try.prog 15 #[.agg #[.int .i64 a0_0, .int .i64 a0_1, .int .i64 a0_2, .int .u64 a0_3, .int .i64 a0_4, .slice A0_5 l0_5.length c0_5, .int .u64 a0_6, .int .u64 a0_7, .int .u64 a0_8, .int .u64 a0_9, .int .u64 a0_10, .int .u64 a0_11, .int .u64 a0_12, .slice A0_13 l0_13.length c0_13, .slice A0_14 l0_14.length c0_14, .float .f64 a0_15]] w fun e w' => e = .returned (.bool r) ∧ Below w.heap.size w w' := by
  have hu32 := Try.underlying32
  have HR0_5 := Aside0.mk hr0_5
  have HC0_5 := Aside0.mk hc0_5
  clear hr0_5 hc0_5
  have HR0_13 := Aside0.mk hr0_13
  have HC0_13 := Aside0.mk hc0_13
  clear hr0_13 hc0_13
  have HR0_14 := Aside0.mk hr0_14
  have HC0_14 := Aside0.mk hc0_14
  clear hr0_14 hc0_14
  have HB := Aside0.mk (Below.refl w.heap.size w)
  have H : (if (l0_5.length : Int) > 30 then (conventiclelaw15_heavy.j0 k true a0_0 a0_1 a0_2 a0_3 a0_4 l0_5 a0_6 a0_7 a0_8 a0_9 a0_10 a0_11 a0_12 l0_13 l0_14 a0_15) else (if (l0_13.length : Int) > 30 then (conventiclelaw15_heavy.j0 k true a0_0 a0_1 a0_2 a0_3 a0_4 l0_5 a0_6 a0_7 a0_8 a0_9 a0_10 a0_11 a0_12 l0_13 l0_14 a0_15) else (conventiclelaw15_heavy.j0 k (decide ((l0_14.length : Int) > 40)) a0_0 a0_1 a0_2 a0_3 a0_4 l0_5 a0_6 a0_7 a0_8 a0_9 a0_10 a0_11 a0_12 l0_13 l0_14 a0_15))) = some r := h
  clear h
  have HC2 := Aside0.mk H
  clear H
  go_enter Try.func15, Try.ntmps15
  go_upto_region 1 with (first | ((with_reducible refine gate_dst (N := 1) rfl ?_); (try (refine gate_guard (by rfl) ?_; dsimp only)); refine box_event ?hg (N := 1) ?hd (cs := #[.int .i64 a0_0, .int .i64 a0_1, .int .i64 a0_2, .int .u64 a0_3, .int .i64 a0_4, .slice A0_5 l0_5.length c0_5, .int .u64 a0_6, .int .u64 a0_7, .int .u64 a0_8, .int .u64 a0_9, .int .u64 a0_10, .int .u64 a0_11, .int .u64 a0_12, .slice A0_13 l0_13.length c0_13, .slice A0_14 l0_14.length c0_14, .float .f64 a0_15]) (t := 32) ?hr ?_; (case hd => rfl); (case hg => rfl); (case hr => first | (go_simp; done) | (go_simp; rfl)); intro gb223 hg w3 hbox hb; have n0_ := Aside0.mk (below_step (by repeat (first | (with_reducible first | exact HB.out | apply below_alloc | apply pw_below_drewN | apply below_drew1) | exact HB.out)) hb); have n1_ := Aside0.mk (hbox); have n2_ := Aside0.mk ((by rw [hg]; exact (below_size (by repeat (first | (with_reducible first | exact HB.out | apply below_alloc | apply pw_below_drewN | apply below_drew1) | exact HB.out))) : w.heap.size ≤ gb223)); have n3_ := Aside0.mk ((by rw [hg]; exact (below_size (by repeat (first | (with_reducible first | exact HB.out | apply below_alloc | apply pw_below_drewN | apply below_drew1) | exact HB.out))) : w.heap.size ≤ gb223)); clear HB; have HB := n0_; have BK223 := n1_; have GW223 := n2_; have GE223 := n3_; clear n0_ n1_ n2_ n3_; clear hb hbox hg))
  (try simp only [Act.put, List.setIfInBounds_toArray, List.set_cons_zero, List.set_cons_succ])
  go_cut [19] (fun v19 wc => ∃ (kq : Nat) (x19_1 : Bool), v19 = .bool x19_1 ∧ Aside0 (conventiclelaw15_heavy.j0 kq x19_1 a0_0 a0_1 a0_2 a0_3 a0_4 l0_5 a0_6 a0_7 a0_8 a0_9 a0_10 a0_11 a0_12 l0_13 l0_14 a0_15 = some r) ∧ Aside0 (kq ≤ k) ∧ Aside0 (wc.heap[gb223]? = some (.cells #[.int .i64 a0_0, .int .i64 a0_1, .int .i64 a0_2, .int .u64 a0_3, .int .i64 a0_4, (.slice A0_5 l0_5.length c0_5), .int .u64 a0_6, .int .u64 a0_7, .int .u64 a0_8, .int .u64 a0_9, .int .u64 a0_10, .int .u64 a0_11, .int .u64 a0_12, (.slice A0_13 l0_13.length c0_13), (.slice A0_14 l0_14.length c0_14), .float .f64 a0_15] 32 (0, 0))) ∧ Aside0 (Below w.heap.size w wc))
  case first =>
    have H := HC2.out
    clear HC2
    by_cases c4 : (l0_5.length : Int) > 30
    · rw [if_pos c4] at H
      have c4b0 : decide (30 < (l0_5.length : Int)) = true := decide_eq_true c4
      have c4b1 : decide (30 < l0_5.length) = true := decide_eq_true (by omega)
      clear c4
      (first | rw [c4b0] | (simp only [i64_w, i32_w]; rw [c4b0]) | skip)
      have H' := Aside0.mk H
      clear H
      have hcz5_0 : w3.cell? ⟨gb223, 0, none⟩ = some (.int .i64 a0_0) := (blk_cell BK223.out 0).trans rfl
      have hcz5_1 : w3.cell? ⟨gb223, 1, none⟩ = some (.int .i64 a0_1) := (blk_cell BK223.out 1).trans rfl
      have hcz5_2 : w3.cell? ⟨gb223, 2, none⟩ = some (.int .i64 a0_2) := (blk_cell BK223.out 2).trans rfl
      have hcz5_3 : w3.cell? ⟨gb223, 3, none⟩ = some (.int .u64 a0_3) := (blk_cell BK223.out 3).trans rfl
      have hcz5_4 : w3.cell? ⟨gb223, 4, none⟩ = some (.int .i64 a0_4) := (blk_cell BK223.out 4).trans rfl
      have hcz5_5 : w3.cell? ⟨gb223, 5, none⟩ = some (.slice A0_5 l0_5.length c0_5) := (blk_cell BK223.out 5).trans rfl
      have hcz5_6 : w3.cell? ⟨gb223, 6, none⟩ = some (.int .u64 a0_6) := (blk_cell BK223.out 6).trans rfl
      have hcz5_7 : w3.cell? ⟨gb223, 7, none⟩ = some (.int .u64 a0_7) := (blk_cell BK223.out 7).trans rfl
      have hcz5_8 : w3.cell? ⟨gb223, 8, none⟩ = some (.int .u64 a0_8) := (blk_cell BK223.out 8).trans rfl
      have hcz5_9 : w3.cell? ⟨gb223, 9, none⟩ = some (.int .u64 a0_9) := (blk_cell BK223.out 9).trans rfl
      have hcz5_10 : w3.cell? ⟨gb223, 10, none⟩ = some (.int .u64 a0_10) := (blk_cell BK223.out 10).trans rfl
      have hcz5_11 : w3.cell? ⟨gb223, 11, none⟩ = some (.int .u64 a0_11) := (blk_cell BK223.out 11).trans rfl
      have hcz5_12 : w3.cell? ⟨gb223, 12, none⟩ = some (.int .u64 a0_12) := (blk_cell BK223.out 12).trans rfl
      have hcz5_13 : w3.cell? ⟨gb223, 13, none⟩ = some (.slice A0_13 l0_13.length c0_13) := (blk_cell BK223.out 13).trans rfl
      have hcz5_14 : w3.cell? ⟨gb223, 14, none⟩ = some (.slice A0_14 l0_14.length c0_14) := (blk_cell BK223.out 14).trans rfl
      have hcz5_15 : w3.cell? ⟨gb223, 15, none⟩ = some (.float .f64 a0_15) := (blk_cell BK223.out 15).trans rfl
      have hfz5_0 := blk_frozen BK223.out 0
      have hfz5_1 := blk_frozen BK223.out 1
      have hfz5_2 := blk_frozen BK223.out 2
      have hfz5_3 := blk_frozen BK223.out 3
      have hfz5_4 := blk_frozen BK223.out 4
      have hfz5_5 := blk_frozen BK223.out 5
      have hfz5_6 := blk_frozen BK223.out 6
      have hfz5_7 := blk_frozen BK223.out 7
      have hfz5_8 := blk_frozen BK223.out 8
      have hfz5_9 := blk_frozen BK223.out 9
      have hfz5_10 := blk_frozen BK223.out 10
      have hfz5_11 := blk_frozen BK223.out 11
      have hfz5_12 := blk_frozen BK223.out 12
      have hfz5_13 := blk_frozen BK223.out 13
      have hfz5_14 := blk_frozen BK223.out 14
      have hfz5_15 := blk_frozen BK223.out 15
      go_wp2
      go_meet
      case rel => exact ⟨_, (true), (by first | rfl | (simp; done) | (simp [*]; done)), H', ⟨by first | omega | exact Nat.le_refl _⟩, ⟨by (with_reducible repeat (first | refine blk_drewN ?_ _ | refine blk_drew ?_ | refine blk_alloc ?_ _)); exact BK223.out⟩, ⟨by repeat (first | (with_reducible first | exact HB.out | apply below_alloc | apply pw_below_drewN | apply below_drew1 | refine below_set ?_ GE223.out) | exact HB.out)⟩⟩
    · rw [if_neg c4] at H
      have c4b0 : decide (30 < (l0_5.length : Int)) = false := decide_eq_false c4
      have c4b1 : decide (30 < l0_5.length) = false := decide_eq_false (by omega)
      clear c4
      (first | rw [c4b0] | (simp only [i64_w, i32_w]; rw [c4b0]) | skip)
      by_cases c6 : (l0_13.length : Int) > 30
      · rw [if_pos c6] at H
        have c6b0 : decide (30 < (l0_13.length : Int)) = true := decide_eq_true c6
        have c6b1 : decide (30 < l0_13.length) = true := decide_eq_true (by omega)
        clear c6
        have H' := Aside0.mk H
        clear H
        have hcz7_0 : w3.cell? ⟨gb223, 0, none⟩ = some (.int .i64 a0_0) := (blk_cell BK223.out 0).trans rfl
        have hcz7_1 : w3.cell? ⟨gb223, 1, none⟩ = some (.int .i64 a0_1) := (blk_cell BK223.out 1).trans rfl
        have hcz7_2 : w3.cell? ⟨gb223, 2, none⟩ = some (.int .i64 a0_2) := (blk_cell BK223.out 2).trans rfl
        have hcz7_3 : w3.cell? ⟨gb223, 3, none⟩ = some (.int .u64 a0_3) := (blk_cell BK223.out 3).trans rfl
        have hcz7_4 : w3.cell? ⟨gb223, 4, none⟩ = some (.int .i64 a0_4) := (blk_cell BK223.out 4).trans rfl
        have hcz7_5 : w3.cell? ⟨gb223, 5, none⟩ = some (.slice A0_5 l0_5.length c0_5) := (blk_cell BK223.out 5).trans rfl
        have hcz7_6 : w3.cell? ⟨gb223, 6, none⟩ = some (.int .u64 a0_6) := (blk_cell BK223.out 6).trans rfl
        have hcz7_7 : w3.cell? ⟨gb223, 7, none⟩ = some (.int .u64 a0_7) := (blk_cell BK223.out 7).trans rfl
        have hcz7_8 : w3.cell? ⟨gb223, 8, none⟩ = some (.int .u64 a0_8) := (blk_cell BK223.out 8).trans rfl
        have hcz7_9 : w3.cell? ⟨gb223, 9, none⟩ = some (.int .u64 a0_9) := (blk_cell BK223.out 9).trans rfl
        have hcz7_10 : w3.cell? ⟨gb223, 10, none⟩ = some (.int .u64 a0_10) := (blk_cell BK223.out 10).trans rfl
        have hcz7_11 : w3.cell? ⟨gb223, 11, none⟩ = some (.int .u64 a0_11) := (blk_cell BK223.out 11).trans rfl
        have hcz7_12 : w3.cell? ⟨gb223, 12, none⟩ = some (.int .u64 a0_12) := (blk_cell BK223.out 12).trans rfl
        have hcz7_13 : w3.cell? ⟨gb223, 13, none⟩ = some (.slice A0_13 l0_13.length c0_13) := (blk_cell BK223.out 13).trans rfl
        have hcz7_14 : w3.cell? ⟨gb223, 14, none⟩ = some (.slice A0_14 l0_14.length c0_14) := (blk_cell BK223.out 14).trans rfl
        have hcz7_15 : w3.cell? ⟨gb223, 15, none⟩ = some (.float .f64 a0_15) := (blk_cell BK223.out 15).trans rfl
        have hfz7_0 := blk_frozen BK223.out 0
        have hfz7_1 := blk_frozen BK223.out 1
        have hfz7_2 := blk_frozen BK223.out 2
        have hfz7_3 := blk_frozen BK223.out 3
        have hfz7_4 := blk_frozen BK223.out 4
        have hfz7_5 := blk_frozen BK223.out 5
        have hfz7_6 := blk_frozen BK223.out 6
        have hfz7_7 := blk_frozen BK223.out 7
        have hfz7_8 := blk_frozen BK223.out 8
        have hfz7_9 := blk_frozen BK223.out 9
        have hfz7_10 := blk_frozen BK223.out 10
        have hfz7_11 := blk_frozen BK223.out 11
        have hfz7_12 := blk_frozen BK223.out 12
        have hfz7_13 := blk_frozen BK223.out 13
        have hfz7_14 := blk_frozen BK223.out 14
        have hfz7_15 := blk_frozen BK223.out 15
        go_wp2
        go_meet
        case rel => exact ⟨_, (true), (by first | rfl | (simp; done) | (simp [*]; done)), H', ⟨by first | omega | exact Nat.le_refl _⟩, ⟨by (with_reducible repeat (first | refine blk_drewN ?_ _ | refine blk_drew ?_ | refine blk_alloc ?_ _)); exact BK223.out⟩, ⟨by repeat (first | (with_reducible first | exact HB.out | apply below_alloc | apply pw_below_drewN | apply below_drew1 | refine below_set ?_ GE223.out) | exact HB.out)⟩⟩
      · rw [if_neg c6] at H
        have c6b0 : decide (30 < (l0_13.length : Int)) = false := decide_eq_false c6
        have c6b1 : decide (30 < l0_13.length) = false := decide_eq_false (by omega)
        clear c6
        have H' := Aside0.mk H
        clear H
        have hcz8_0 : w3.cell? ⟨gb223, 0, none⟩ = some (.int .i64 a0_0) := (blk_cell BK223.out 0).trans rfl
        have hcz8_1 : w3.cell? ⟨gb223, 1, none⟩ = some (.int .i64 a0_1) := (blk_cell BK223.out 1).trans rfl
        have hcz8_2 : w3.cell? ⟨gb223, 2, none⟩ = some (.int .i64 a0_2) := (blk_cell BK223.out 2).trans rfl
        have hcz8_3 : w3.cell? ⟨gb223, 3, none⟩ = some (.int .u64 a0_3) := (blk_cell BK223.out 3).trans rfl
        have hcz8_4 : w3.cell? ⟨gb223, 4, none⟩ = some (.int .i64 a0_4) := (blk_cell BK223.out 4).trans rfl
        have hcz8_5 : w3.cell? ⟨gb223, 5, none⟩ = some (.slice A0_5 l0_5.length c0_5) := (blk_cell BK223.out 5).trans rfl
        have hcz8_6 : w3.cell? ⟨gb223, 6, none⟩ = some (.int .u64 a0_6) := (blk_cell BK223.out 6).trans rfl
        have hcz8_7 : w3.cell? ⟨gb223, 7, none⟩ = some (.int .u64 a0_7) := (blk_cell BK223.out 7).trans rfl
        have hcz8_8 : w3.cell? ⟨gb223, 8, none⟩ = some (.int .u64 a0_8) := (blk_cell BK223.out 8).trans rfl
        have hcz8_9 : w3.cell? ⟨gb223, 9, none⟩ = some (.int .u64 a0_9) := (blk_cell BK223.out 9).trans rfl
        have hcz8_10 : w3.cell? ⟨gb223, 10, none⟩ = some (.int .u64 a0_10) := (blk_cell BK223.out 10).trans rfl
        have hcz8_11 : w3.cell? ⟨gb223, 11, none⟩ = some (.int .u64 a0_11) := (blk_cell BK223.out 11).trans rfl
        have hcz8_12 : w3.cell? ⟨gb223, 12, none⟩ = some (.int .u64 a0_12) := (blk_cell BK223.out 12).trans rfl
        have hcz8_13 : w3.cell? ⟨gb223, 13, none⟩ = some (.slice A0_13 l0_13.length c0_13) := (blk_cell BK223.out 13).trans rfl
        have hcz8_14 : w3.cell? ⟨gb223, 14, none⟩ = some (.slice A0_14 l0_14.length c0_14) := (blk_cell BK223.out 14).trans rfl
        have hcz8_15 : w3.cell? ⟨gb223, 15, none⟩ = some (.float .f64 a0_15) := (blk_cell BK223.out 15).trans rfl
        have hfz8_0 := blk_frozen BK223.out 0
        have hfz8_1 := blk_frozen BK223.out 1
        have hfz8_2 := blk_frozen BK223.out 2
        have hfz8_3 := blk_frozen BK223.out 3
        have hfz8_4 := blk_frozen BK223.out 4
        have hfz8_5 := blk_frozen BK223.out 5
        have hfz8_6 := blk_frozen BK223.out 6
        have hfz8_7 := blk_frozen BK223.out 7
        have hfz8_8 := blk_frozen BK223.out 8
        have hfz8_9 := blk_frozen BK223.out 9
        have hfz8_10 := blk_frozen BK223.out 10
        have hfz8_11 := blk_frozen BK223.out 11
        have hfz8_12 := blk_frozen BK223.out 12
        have hfz8_13 := blk_frozen BK223.out 13
        have hfz8_14 := blk_frozen BK223.out 14
        have hfz8_15 := blk_frozen BK223.out 15
        go_wp2
        go_meet
        case rel => exact ⟨_, (decide ((l0_14.length : Int) > 40)), (by first | rfl | (simp; done) | (simp [*]; done)), H', ⟨by first | omega | exact Nat.le_refl _⟩, ⟨by (with_reducible repeat (first | refine blk_drewN ?_ _ | refine blk_drew ?_ | refine blk_alloc ?_ _)); exact BK223.out⟩, ⟨by repeat (first | (with_reducible first | exact HB.out | apply below_alloc | apply pw_below_drewN | apply below_drew1 | refine below_set ?_ GE223.out) | exact HB.out)⟩⟩
  case rest =>
    clear HC2
    try clear c1
    try clear p2
    try clear c4
    try clear c4b0
    try clear c4b1
    try clear c6
    try clear c6b0
    try clear c6b1
    try clear hcz5_0
    try clear hcz5_1
    try clear hcz5_10
    try clear hcz5_11
    try clear hcz5_12
    try clear hcz5_13
    try clear hcz5_14
    try clear hcz5_15
    try clear hcz5_2
    try clear hcz5_3
    try clear hcz5_4
    try clear hcz5_5
    try clear hcz5_6
    try clear hcz5_7
    try clear hcz5_8
    try clear hcz5_9
    try clear hcz7_0
    try clear hcz7_1
    try clear hcz7_10
    try clear hcz7_11
    try clear hcz7_12
    try clear hcz7_13
    try clear hcz7_14
    try clear hcz7_15
    try clear hcz7_2
    try clear hcz7_3
    try clear hcz7_4
    try clear hcz7_5
    try clear hcz7_6
    try clear hcz7_7
    try clear hcz7_8
    try clear hcz7_9
    try clear hcz8_0
    try clear hcz8_1
    try clear hcz8_10
    try clear hcz8_11
    try clear hcz8_12
    try clear hcz8_13
    try clear hcz8_14
    try clear hcz8_15
    try clear hcz8_2
    try clear hcz8_3
    try clear hcz8_4
    try clear hcz8_5
    try clear hcz8_6
    try clear hcz8_7
    try clear hcz8_8
    try clear hcz8_9
    try clear hfz5_0
    try clear hfz5_1
    try clear hfz5_10
    try clear hfz5_11
    try clear hfz5_12
    try clear hfz5_13
    try clear hfz5_14
    try clear hfz5_15
    try clear hfz5_2
    try clear hfz5_3
    try clear hfz5_4
    try clear hfz5_5
    try clear hfz5_6
    try clear hfz5_7
    try clear hfz5_8
    try clear hfz5_9
    try clear hfz7_0
    try clear hfz7_1
    try clear hfz7_10
    try clear hfz7_11
    try clear hfz7_12
    try clear hfz7_13
    try clear hfz7_14
    try clear hfz7_15
    try clear hfz7_2
    try clear hfz7_3
    try clear hfz7_4
    try clear hfz7_5
    try clear hfz7_6
    try clear hfz7_7
    try clear hfz7_8
    try clear hfz7_9
    try clear hfz8_0
    try clear hfz8_1
    try clear hfz8_10
    try clear hfz8_11
    try clear hfz8_12
    try clear hfz8_13
    try clear hfz8_14
    try clear hfz8_15
    try clear hfz8_2
    try clear hfz8_3
    try clear hfz8_4
    try clear hfz8_5
    try clear hfz8_6
    try clear hfz8_7
    try clear hfz8_8
    try clear hfz8_9
    obtain ⟨kq, x19_1, rfl, HA, HJ1, BK223, HB⟩ := hcut
    cases kq with
    | zero => exact absurd HA.out (by simp [conventiclelaw15_heavy.j0])
    | succ kj1 =>
      have H := HA.out
      clear HA
      simp only [conventiclelaw15_heavy.j0] at H
      by_cases c9 : x19_1 = true
      · subst c9
        have H1 : (some true) = some r := by rw [if_pos rfl] at H; exact H
        clear H
        have H := H1
        clear H1
        obtain rfl := Option.some.inj H
        go_wp2
        go_ret
        exact ⟨by first | rfl | (simp [errW_none, errW_some] <;> rfl) | (simp [*, errW_none, errW_some] <;> rfl), by repeat (first | (with_reducible first | exact HB.out | apply below_alloc | apply pw_below_drewN | apply below_drew1 | refine below_set ?_ GE223.out) | exact HB.out)⟩
      · replace c9 := Bool.eq_false_iff.mpr c9
        subst c9
        have H1 : (conventiclelaw15_heavy.l0 kj1 0 a0_0 a0_1 a0_2 a0_3 a0_4 l0_5 a0_6 a0_7 a0_8 a0_9 a0_10 a0_11 a0_12 l0_13 l0_14 a0_15) = some r := by rw [if_neg (show ¬ (false = true) by decide)] at H; exact H
        clear H
        have H := H1
        clear H1
        have H' := Aside0.mk H
        clear H
        go_wp2
        go_loopg [3] kj1 (fun kq v3 w' => ∃ (x3_2 : Int), v3 = .int .i64 x3_2 ∧ Aside0 (conventiclelaw15_heavy.l0 kq x3_2 a0_0 a0_1 a0_2 a0_3 a0_4 l0_5 a0_6 a0_7 a0_8 a0_9 a0_10 a0_11 a0_12 l0_13 l0_14 a0_15 = some r) ∧ Aside0 (kq ≤ kj1) ∧ Aside0 (w'.heap[gb223]? = some (.cells #[.int .i64 a0_0, .int .i64 a0_1, .int .i64 a0_2, .int .u64 a0_3, .int .i64 a0_4, (.slice A0_5 l0_5.length c0_5), .int .u64 a0_6, .int .u64 a0_7, .int .u64 a0_8, .int .u64 a0_9, .int .u64 a0_10, .int .u64 a0_11, .int .u64 a0_12, (.slice A0_13 l0_13.length c0_13), (.slice A0_14 l0_14.length c0_14), .float .f64 a0_15] 32 (0, 0))) ∧ Aside0 (Below w.heap.size w w'))
        case atStart => exact ⟨(0), (by first | rfl | (simp; done) | (simp [*]; done)), H', ⟨Nat.le_refl _⟩, ⟨by (with_reducible repeat (first | refine blk_drewN ?_ _ | refine blk_drew ?_ | refine blk_alloc ?_ _)); exact BK223.out⟩, ⟨by repeat (first | (with_reducible first | exact HB.out | apply below_alloc | apply pw_below_drewN | apply below_drew1 | refine below_set ?_ GE223.out) | exact HB.out)⟩⟩
        case round =>
          clear H'
          try clear c1
          try clear p2
          try clear c4
          try clear c4b0
          try clear c4b1
          try clear c6
          try clear c6b0
          try clear c6b1
          try clear c9
          try clear hcz5_0
          try clear hcz5_1
          try clear hcz5_10
          try clear hcz5_11
          try clear hcz5_12
          try clear hcz5_13
          try clear hcz5_14
          try clear hcz5_15
          try clear hcz5_2
          try clear hcz5_3
          try clear hcz5_4
          try clear hcz5_5
          try clear hcz5_6
          try clear hcz5_7
          try clear hcz5_8
          try clear hcz5_9
          try clear hcz7_0
          try clear hcz7_1
          try clear hcz7_10
          try clear hcz7_11
          try clear hcz7_12
          try clear hcz7_13
          try clear hcz7_14
          try clear hcz7_15
          try clear hcz7_2
          try clear hcz7_3
          try clear hcz7_4
          try clear hcz7_5
          try clear hcz7_6
          try clear hcz7_7
          try clear hcz7_8
          try clear hcz7_9
          try clear hcz8_0
          try clear hcz8_1
          try clear hcz8_10
          try clear hcz8_11
          try clear hcz8_12
          try clear hcz8_13
          try clear hcz8_14
          try clear hcz8_15
          try clear hcz8_2
          try clear hcz8_3
          try clear hcz8_4
          try clear hcz8_5
          try clear hcz8_6
          try clear hcz8_7
          try clear hcz8_8
          try clear hcz8_9
          try clear hfz5_0
          try clear hfz5_1
          try clear hfz5_10
          try clear hfz5_11
          try clear hfz5_12
          try clear hfz5_13
          try clear hfz5_14
          try clear hfz5_15
          try clear hfz5_2
          try clear hfz5_3
          try clear hfz5_4
          try clear hfz5_5
          try clear hfz5_6
          try clear hfz5_7
          try clear hfz5_8
          try clear hfz5_9
          try clear hfz7_0
          try clear hfz7_1
          try clear hfz7_10
          try clear hfz7_11
          try clear hfz7_12
          try clear hfz7_13
          try clear hfz7_14
          try clear hfz7_15
          try clear hfz7_2
          try clear hfz7_3
          try clear hfz7_4
          try clear hfz7_5
          try clear hfz7_6
          try clear hfz7_7
          try clear hfz7_8
          try clear hfz7_9
          try clear hfz8_0
          try clear hfz8_1
          try clear hfz8_10
          try clear hfz8_11
          try clear hfz8_12
          try clear hfz8_13
          try clear hfz8_14
          try clear hfz8_15
          try clear hfz8_2
          try clear hfz8_3
          try clear hfz8_4
          try clear hfz8_5
          try clear hfz8_6
          try clear hfz8_7
          try clear hfz8_8
          try clear hfz8_9
          try clear p2
          obtain ⟨x3_2, rfl, HA, HK2, BK223, HB⟩ := hrel
          cases gk with
          | zero => exact absurd HA.out (by simp [conventiclelaw15_heavy.l0])
          | succ k2 =>
            have H := HA.out
            clear HA
            simp only [conventiclelaw15_heavy.l0] at H
            by_cases c10 : x3_2 < (l0_13.length : Int)
            · rw [if_pos c10] at H
              have c10b0 : decide (x3_2 < (l0_13.length : Int)) = true := decide_eq_true c10
              clear c10
              by_cases c11 : 0 ≤ x3_2
              · rw [if_pos c11] at H
                have c11b0 : decide (0 ≤ x3_2) = true := decide_eq_true c11
                clear c11
                by_cases c12 : (((rd_T53 l0_13 x3_2).f1.f2).size : Int) > 100
                · rw [if_pos c12] at H
                  have c12b0 : decide (100 < (((rd_T53 l0_13 x3_2).f1.f2).size : Int)) = true := decide_eq_true c12
                  have c12b1 : decide (100 < ((rd_T53 l0_13 x3_2).f1.f2).size) = true := decide_eq_true (by omega)
                  clear c12
                  obtain rfl := Option.some.inj H
                  have hcz13_0 : wr.cell? ⟨gb223, 0, none⟩ = some (.int .i64 a0_0) := (blk_cell BK223.out 0).trans rfl
                  have hcz13_1 : wr.cell? ⟨gb223, 1, none⟩ = some (.int .i64 a0_1) := (blk_cell BK223.out 1).trans rfl
                  have hcz13_2 : wr.cell? ⟨gb223, 2, none⟩ = some (.int .i64 a0_2) := (blk_cell BK223.out 2).trans rfl
                  have hcz13_3 : wr.cell? ⟨gb223, 3, none⟩ = some (.int .u64 a0_3) := (blk_cell BK223.out 3).trans rfl
                  have hcz13_4 : wr.cell? ⟨gb223, 4, none⟩ = some (.int .i64 a0_4) := (blk_cell BK223.out 4).trans rfl
                  have hcz13_5 : wr.cell? ⟨gb223, 5, none⟩ = some (.slice A0_5 l0_5.length c0_5) := (blk_cell BK223.out 5).trans rfl
                  have hcz13_6 : wr.cell? ⟨gb223, 6, none⟩ = some (.int .u64 a0_6) := (blk_cell BK223.out 6).trans rfl
                  have hcz13_7 : wr.cell? ⟨gb223, 7, none⟩ = some (.int .u64 a0_7) := (blk_cell BK223.out 7).trans rfl
                  have hcz13_8 : wr.cell? ⟨gb223, 8, none⟩ = some (.int .u64 a0_8) := (blk_cell BK223.out 8).trans rfl
                  have hcz13_9 : wr.cell? ⟨gb223, 9, none⟩ = some (.int .u64 a0_9) := (blk_cell BK223.out 9).trans rfl
                  have hcz13_10 : wr.cell? ⟨gb223, 10, none⟩ = some (.int .u64 a0_10) := (blk_cell BK223.out 10).trans rfl
                  have hcz13_11 : wr.cell? ⟨gb223, 11, none⟩ = some (.int .u64 a0_11) := (blk_cell BK223.out 11).trans rfl
                  have hcz13_12 : wr.cell? ⟨gb223, 12, none⟩ = some (.int .u64 a0_12) := (blk_cell BK223.out 12).trans rfl
                  have hcz13_13 : wr.cell? ⟨gb223, 13, none⟩ = some (.slice A0_13 l0_13.length c0_13) := (blk_cell BK223.out 13).trans rfl
                  have hcz13_14 : wr.cell? ⟨gb223, 14, none⟩ = some (.slice A0_14 l0_14.length c0_14) := (blk_cell BK223.out 14).trans rfl
                  have hcz13_15 : wr.cell? ⟨gb223, 15, none⟩ = some (.float .f64 a0_15) := (blk_cell BK223.out 15).trans rfl
                  have hfz13_0 := blk_frozen BK223.out 0
                  have hfz13_1 := blk_frozen BK223.out 1
                  have hfz13_2 := blk_frozen BK223.out 2
                  have hfz13_3 := blk_frozen BK223.out 3
                  have hfz13_4 := blk_frozen BK223.out 4
                  have hfz13_5 := blk_frozen BK223.out 5
                  have hfz13_6 := blk_frozen BK223.out 6
                  have hfz13_7 := blk_frozen BK223.out 7
                  have hfz13_8 := blk_frozen BK223.out 8
                  have hfz13_9 := blk_frozen BK223.out 9
                  have hfz13_10 := blk_frozen BK223.out 10
                  have hfz13_11 := blk_frozen BK223.out 11
                  have hfz13_12 := blk_frozen BK223.out 12
                  have hfz13_13 := blk_frozen BK223.out 13
                  have hfz13_14 := blk_frozen BK223.out 14
                  have hfz13_15 := blk_frozen BK223.out 15
                  have p224 : 0 ≤ (x3_2 : Int) := of_decide_eq_true (by first | (with_reducible assumption) | assumption)
                  have q224 : x3_2 < (l0_13.length : Int) := of_decide_eq_true (by first | (with_reducible assumption) | assumption)
                  obtain ⟨ad224, e224, hx224_0, hx224_1, hx224_2, hx224_3⟩ := at_T53 HR0_13.out x3_2 p224 q224
                  cases e224
                  replace hx224_0 := (HB.out.cell (World.block_lt_of_cell? w _ hx224_0)).trans hx224_0
                  replace hx224_1 := (HB.out.cell (World.block_lt_of_cell? w _ hx224_1)).trans hx224_1
                  replace hx224_2 := (HB.out.cell (World.block_lt_of_cell? w _ hx224_2)).trans hx224_2
                  replace hx224_3 := (HB.out.cell (World.block_lt_of_cell? w _ hx224_3)).trans hx224_3
                  replace p224 := eq_true p224
                  replace q224 := eq_true q224
                  go_wp2
                  go_ret
                  exact ⟨by first | rfl | (simp [errW_none, errW_some] <;> rfl) | (simp [*, errW_none, errW_some] <;> rfl), by repeat (first | (with_reducible first | exact HB.out | apply below_alloc | apply pw_below_drewN | apply below_drew1 | refine below_set ?_ GE223.out) | exact HB.out)⟩
                · rw [if_neg c12] at H
                  have c12b0 : decide (100 < (((rd_T53 l0_13 x3_2).f1.f2).size : Int)) = false := decide_eq_false c12
                  have c12b1 : decide (100 < ((rd_T53 l0_13 x3_2).f1.f2).size) = false := decide_eq_false (by omega)
                  clear c12
                  have H' := Aside0.mk H
                  clear H
                  have hcz14_0 : wr.cell? ⟨gb223, 0, none⟩ = some (.int .i64 a0_0) := (blk_cell BK223.out 0).trans rfl
                  have hcz14_1 : wr.cell? ⟨gb223, 1, none⟩ = some (.int .i64 a0_1) := (blk_cell BK223.out 1).trans rfl
                  have hcz14_2 : wr.cell? ⟨gb223, 2, none⟩ = some (.int .i64 a0_2) := (blk_cell BK223.out 2).trans rfl
                  have hcz14_3 : wr.cell? ⟨gb223, 3, none⟩ = some (.int .u64 a0_3) := (blk_cell BK223.out 3).trans rfl
                  have hcz14_4 : wr.cell? ⟨gb223, 4, none⟩ = some (.int .i64 a0_4) := (blk_cell BK223.out 4).trans rfl
                  have hcz14_5 : wr.cell? ⟨gb223, 5, none⟩ = some (.slice A0_5 l0_5.length c0_5) := (blk_cell BK223.out 5).trans rfl
                  have hcz14_6 : wr.cell? ⟨gb223, 6, none⟩ = some (.int .u64 a0_6) := (blk_cell BK223.out 6).trans rfl
                  have hcz14_7 : wr.cell? ⟨gb223, 7, none⟩ = some (.int .u64 a0_7) := (blk_cell BK223.out 7).trans rfl
                  have hcz14_8 : wr.cell? ⟨gb223, 8, none⟩ = some (.int .u64 a0_8) := (blk_cell BK223.out 8).trans rfl
                  have hcz14_9 : wr.cell? ⟨gb223, 9, none⟩ = some (.int .u64 a0_9) := (blk_cell BK223.out 9).trans rfl
                  have hcz14_10 : wr.cell? ⟨gb223, 10, none⟩ = some (.int .u64 a0_10) := (blk_cell BK223.out 10).trans rfl
                  have hcz14_11 : wr.cell? ⟨gb223, 11, none⟩ = some (.int .u64 a0_11) := (blk_cell BK223.out 11).trans rfl
                  have hcz14_12 : wr.cell? ⟨gb223, 12, none⟩ = some (.int .u64 a0_12) := (blk_cell BK223.out 12).trans rfl
                  have hcz14_13 : wr.cell? ⟨gb223, 13, none⟩ = some (.slice A0_13 l0_13.length c0_13) := (blk_cell BK223.out 13).trans rfl
                  have hcz14_14 : wr.cell? ⟨gb223, 14, none⟩ = some (.slice A0_14 l0_14.length c0_14) := (blk_cell BK223.out 14).trans rfl
                  have hcz14_15 : wr.cell? ⟨gb223, 15, none⟩ = some (.float .f64 a0_15) := (blk_cell BK223.out 15).trans rfl
                  have hfz14_0 := blk_frozen BK223.out 0
                  have hfz14_1 := blk_frozen BK223.out 1
                  have hfz14_2 := blk_frozen BK223.out 2
                  have hfz14_3 := blk_frozen BK223.out 3
                  have hfz14_4 := blk_frozen BK223.out 4
                  have hfz14_5 := blk_frozen BK223.out 5
                  have hfz14_6 := blk_frozen BK223.out 6
                  have hfz14_7 := blk_frozen BK223.out 7
                  have hfz14_8 := blk_frozen BK223.out 8
                  have hfz14_9 := blk_frozen BK223.out 9
                  have hfz14_10 := blk_frozen BK223.out 10
                  have hfz14_11 := blk_frozen BK223.out 11
                  have hfz14_12 := blk_frozen BK223.out 12
                  have hfz14_13 := blk_frozen BK223.out 13
                  have hfz14_14 := blk_frozen BK223.out 14
                  have hfz14_15 := blk_frozen BK223.out 15
                  have p224 : 0 ≤ (x3_2 : Int) := of_decide_eq_true (by first | (with_reducible assumption) | assumption)
                  have q224 : x3_2 < (l0_13.length : Int) := of_decide_eq_true (by first | (with_reducible assumption) | assumption)
                  obtain ⟨ad224, e224, hx224_0, hx224_1, hx224_2, hx224_3⟩ := at_T53 HR0_13.out x3_2 p224 q224
                  cases e224
                  replace hx224_0 := (HB.out.cell (World.block_lt_of_cell? w _ hx224_0)).trans hx224_0
                  replace hx224_1 := (HB.out.cell (World.block_lt_of_cell? w _ hx224_1)).trans hx224_1
                  replace hx224_2 := (HB.out.cell (World.block_lt_of_cell? w _ hx224_2)).trans hx224_2
                  replace hx224_3 := (HB.out.cell (World.block_lt_of_cell? w _ hx224_3)).trans hx224_3
                  replace p224 := eq_true p224
                  replace q224 := eq_true q224
                  go_wp2
                  go_roundg k2
                  case measure => have := HJ1.out; have := HK2.out; omega
                  case rel => exact ⟨(wrap64 (x3_2 + 1)), (by first | rfl | (simp; done) | (simp [*]; done)), H', ⟨by have := HJ1.out; have := HK2.out; omega⟩, ⟨by (with_reducible repeat (first | refine blk_drewN ?_ _ | refine blk_drew ?_ | refine blk_alloc ?_ _)); exact BK223.out⟩, ⟨by repeat (first | (with_reducible first | exact HB.out | apply below_alloc | apply pw_below_drewN | apply below_drew1 | refine below_set ?_ GE223.out) | exact HB.out)⟩⟩
              · rw [if_neg c11] at H
                exact absurd H (by simp)
            · rw [if_neg c10] at H
              have c10b0 : decide (x3_2 < (l0_13.length : Int)) = false := decide_eq_false c10
              clear c10
              obtain rfl := Option.some.inj H
              have hcz15_0 : wr.cell? ⟨gb223, 0, none⟩ = some (.int .i64 a0_0) := (blk_cell BK223.out 0).trans rfl
              have hcz15_1 : wr.cell? ⟨gb223, 1, none⟩ = some (.int .i64 a0_1) := (blk_cell BK223.out 1).trans rfl
              have hcz15_2 : wr.cell? ⟨gb223, 2, none⟩ = some (.int .i64 a0_2) := (blk_cell BK223.out 2).trans rfl
              have hcz15_3 : wr.cell? ⟨gb223, 3, none⟩ = some (.int .u64 a0_3) := (blk_cell BK223.out 3).trans rfl
              have hcz15_4 : wr.cell? ⟨gb223, 4, none⟩ = some (.int .i64 a0_4) := (blk_cell BK223.out 4).trans rfl
              have hcz15_5 : wr.cell? ⟨gb223, 5, none⟩ = some (.slice A0_5 l0_5.length c0_5) := (blk_cell BK223.out 5).trans rfl
              have hcz15_6 : wr.cell? ⟨gb223, 6, none⟩ = some (.int .u64 a0_6) := (blk_cell BK223.out 6).trans rfl
              have hcz15_7 : wr.cell? ⟨gb223, 7, none⟩ = some (.int .u64 a0_7) := (blk_cell BK223.out 7).trans rfl
              have hcz15_8 : wr.cell? ⟨gb223, 8, none⟩ = some (.int .u64 a0_8) := (blk_cell BK223.out 8).trans rfl
              have hcz15_9 : wr.cell? ⟨gb223, 9, none⟩ = some (.int .u64 a0_9) := (blk_cell BK223.out 9).trans rfl
              have hcz15_10 : wr.cell? ⟨gb223, 10, none⟩ = some (.int .u64 a0_10) := (blk_cell BK223.out 10).trans rfl
              have hcz15_11 : wr.cell? ⟨gb223, 11, none⟩ = some (.int .u64 a0_11) := (blk_cell BK223.out 11).trans rfl
              have hcz15_12 : wr.cell? ⟨gb223, 12, none⟩ = some (.int .u64 a0_12) := (blk_cell BK223.out 12).trans rfl
              have hcz15_13 : wr.cell? ⟨gb223, 13, none⟩ = some (.slice A0_13 l0_13.length c0_13) := (blk_cell BK223.out 13).trans rfl
              have hcz15_14 : wr.cell? ⟨gb223, 14, none⟩ = some (.slice A0_14 l0_14.length c0_14) := (blk_cell BK223.out 14).trans rfl
              have hcz15_15 : wr.cell? ⟨gb223, 15, none⟩ = some (.float .f64 a0_15) := (blk_cell BK223.out 15).trans rfl
              have hfz15_0 := blk_frozen BK223.out 0
              have hfz15_1 := blk_frozen BK223.out 1
              have hfz15_2 := blk_frozen BK223.out 2
              have hfz15_3 := blk_frozen BK223.out 3
              have hfz15_4 := blk_frozen BK223.out 4
              have hfz15_5 := blk_frozen BK223.out 5
              have hfz15_6 := blk_frozen BK223.out 6
              have hfz15_7 := blk_frozen BK223.out 7
              have hfz15_8 := blk_frozen BK223.out 8
              have hfz15_9 := blk_frozen BK223.out 9
              have hfz15_10 := blk_frozen BK223.out 10
              have hfz15_11 := blk_frozen BK223.out 11
              have hfz15_12 := blk_frozen BK223.out 12
              have hfz15_13 := blk_frozen BK223.out 13
              have hfz15_14 := blk_frozen BK223.out 14
              have hfz15_15 := blk_frozen BK223.out 15
              go_wp2
              go_ret
              exact ⟨by first | rfl | (simp [errW_none, errW_some] <;> rfl) | (simp [*, errW_none, errW_some] <;> rfl), by repeat (first | (with_reducible first | exact HB.out | apply below_alloc | apply pw_below_drewN | apply below_drew1 | refine below_set ?_ GE223.out) | exact HB.out)⟩

-- NOT PRINTED: function 4 (conventiclelaw15_LetterBack)

-- NOT PRINTED: function 5 (conventiclelaw15_LetterMay)

end Go.Proofs.Ytondgoabnmgcaaa.B
end
section
/- By hand: writers beside writers; the closed run that each law of layer 1 asks for. -/
namespace Go.Proofs.YtondgoabnmgcaaaO.R
open Go.RowKit Go.Proofs.YtondgoabnmgcaaaW.PrintWords Go.Proofs.YtondgoabnmgcaaaW.PrintLast Go.Proofs.YtondgoabnmgcaaaW.PrintMore Go.Proofs.YtondgoabnmgcaaaO.B

section
variable {w w' : World} {base g : Nat} {A : Option Addr} {c : Nat} {l : List Int}
theorem Wr.lt (h : Wr w base g A c l) : g < w.heap.size := (Array.getElem?_eq_some_iff.1 h.cell).1
theorem Wr.row_lt (h : Wr w base g A c l) (k : Nat) (hk : A.map (·.block) = some k) : base ≤ k ∧ k < w.heap.size := h.own.lt k (by rw [ownBlock_map]; exact hk)
theorem Wr.move (h : Wr w base g A c l) (hm : ∀ k, (k = g ∨ A.map (·.block) = some k) → w'.heap[k]? = w.heap[k]?) : Wr w' base g A c l :=
  ⟨(hm g (.inl rfl)).trans h.cell, own_move h.own (fun k hk => hm k (.inr (by rw [← ownBlock_map]; exact hk))), h.far⟩
theorem Wr.keep (h : Wr w base g A c l) (hb : Below w.heap.size w w') : Wr w' base g A c l := h.move fun k hk => hb.block k (by
  rcases hk with rfl | hk
  · exact h.lt
  · exact (h.row_lt k hk).2)
theorem Wr.new (hb : w.heap[g]? = some (.cells #[.slice none 0 0] 98 (0, 0))) (hg : base ≤ g) : Wr w base g none 0 [] := ⟨hb, World.ownsRow_nil w base 5 1, hg⟩
/-- no row of the one is the other's -/
def Apart (A B : Option Addr) : Prop := ∀ k, A.map (·.block) = some k → B.map (·.block) ≠ some k
theorem Apart.none (B : Option Addr) : Apart none B := fun _ h => by cases h
theorem Apart.symm {A B : Option Addr} (h : Apart A B) : Apart B A := fun k hk hA => h k hA hk
theorem Wr.other {base2 g2 : Nat} {A2 B2 : Option Addr} {c2 : Nat} {l2 : List Int} (h : Wr w base g A c l) (h2 : Wr w base2 g2 A2 c2 l2) (hg : g ≠ g2) (ha : Apart A A2) (s : Stp w w' g2 A2 B2) : Wr w' base g A c l ∧ Apart A B2 := by
  have typed : ∀ (u : World) (b : Nat) (D : Option Addr) (n d : Nat) (xs : List Value), u.ownsRow b 5 1 (.slice D n d) n xs → ∀ k, D.map (·.block) = some k → ∃ cells, u.heap[k]? = some (.cells cells 5 (0, 0)) :=
    fun u b D n d xs ho k hk => own_typed ho k (by rw [ownBlock_map]; exact hk)
  refine ⟨h.move fun k hk => s.block k ?_ ?_ ?_, fun k hk => ?_⟩
  · rcases hk with rfl | hk
    · exact h.lt
    · exact (h.row_lt k hk).2
  · rcases hk with rfl | hk
    · exact hg
    · rintro rfl
      obtain ⟨cells, hc⟩ := typed _ _ _ _ _ _ h.own k hk
      rw [h2.cell] at hc
      injection hc with hc
      injection hc with _ ht
      exact absurd ht (by decide)
  · rcases hk with rfl | hk
    · intro e
      obtain ⟨cells, hc⟩ := typed _ _ _ _ _ _ h2.own k e
      rw [h.cell] at hc
      injection hc with hc
      injection hc with _ ht
      exact absurd ht (by decide)
    · exact ha k hk
  · have hl := (h.row_lt k hk).2
    rcases s.row with e | ⟨b, e, hb⟩
    · rw [e]; exact ha k hk
    · rw [e]; intro h'; injection h' with h'; omega
/-- all that lies below base lives on -/
theorem Stp.below {base : Nat} {w0 : World} (h : Wr w base g A c l) {B : Option Addr} (s : Stp w w' g A B) (hb : Below base w0 w) : Below base w0 w' := hb.trans (h.below s)
end
end Go.Proofs.YtondgoabnmgcaaaO.R
end
section
/- OctetReal, by hand: the law's own walk. -/
namespace Go.Proofs.YtondgoabnmgcaaaO.R
open Go.RowKit Go.Proofs.YtondgoabnmgcaaaW.PrintWords Go.Proofs.YtondgoabnmgcaaaW.PrintLast Go.Proofs.YtondgoabnmgcaaaW.PrintMore Go.Proofs.YtondgoabnmgcaaaO.B

end Go.Proofs.YtondgoabnmgcaaaO.R
end
