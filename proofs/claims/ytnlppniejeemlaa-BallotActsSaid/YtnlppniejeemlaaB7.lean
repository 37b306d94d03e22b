-- printed by this session's own copy of the print program (wip/patch), for seat Ytnlppniejeemlaa
import Derived.Test.YtnlppniejeemlaaB0
import Derived.Test.YtnlppniejeemlaaB1
import Derived.Test.YtnlppniejeemlaaB4
import Derived.Test.YtnlppniejeemlaaHand
import Derived.Test.YtnlppniejeemlaaShown
namespace Go.Proofs.Ytnlppniejeemlaa.B
open Go.RowKit Go.Proofs.YtnlppniejeemlaaW.PrintWords Go.Proofs.YtnlppniejeemlaaW.PrintLast Go.Proofs.YtnlppniejeemlaaW.PrintMore
attribute [local go_sem] max2_int min2_int max_two min_two max_three min_three max_four min_four   -- for this text's walks alone
set_option linter.unusedVariables false
set_option linter.unusedSimpArgs false

attribute [local go_sem high] eqA27
/-! ### conventiclelaw16_BallotPicks: function 4 -/
mutual
def conventiclelaw16_BallotPicks.j0 : Nat → List (S29) → Bool → Option (Bool)
  | 0, _, _ => none
  | k + 1, x0, x14 => if x14 = true then ((conventiclelaw16_shown.f).bind fun t231 => (some t231)) else ((ballot_Pick.f x0).bind fun bt232 => (conventiclelaw16_BallotPicks.l0 k x0 bt232.2.2 0 0 bt232.1 bt232.2.1))
def conventiclelaw16_BallotPicks.l0 : Nat → List (S29) → Bool → Int → Int → Int → Int → Option (Bool)
  | 0, _, _, _, _, _, _ => none
  | k + 1, x0, x4, x5, x6, x236000, x236001 => if x6 < (x0.length : Int) then (if 0 ≤ x6 then (conventiclelaw16_BallotPicks.l0 k x0 x4 (mx x5 ((rd_T29 x0 x6).f0)) (wrap64 (x6 + 1)) x236000 x236001) else (none)) else (if x5 = 0 then (if x4 = true then (none) else (some (x236000 == 0 && (x236001 == 0)))) else (conventiclelaw16_BallotPicks.l1 k x0 x4 x5 0 x236000 x236001))
def conventiclelaw16_BallotPicks.l1 : Nat → List (S29) → Bool → Int → Int → Int → Int → Option (Bool)
  | 0, _, _, _, _, _, _ => none
  | k + 1, x0, x4, x5, x7, x236000, x236001 => if x7 < (x0.length : Int) then (if 0 ≤ x7 then (if ((rd_T29 x0 x7).f0) = x5 then (if x4 = true then (some (x236000 == ((rd_T29 x0 x7).f1.f0) && (x236001 == ((rd_T29 x0 x7).f1.f1)))) else (none)) else (conventiclelaw16_BallotPicks.l1 k x0 x4 x5 (wrap64 (x7 + 1)) x236000 x236001)) else (none)) else (none)
end
def conventiclelaw16_BallotPicks.f (k : Nat) (l0 : List (S29)) : Option (Bool) := if (l0.length : Int) > 100 then (conventiclelaw16_BallotPicks.j0 k l0 true) else ((conventiclelaw16_shown.f).bind fun t230 => (conventiclelaw16_BallotPicks.j0 k l0 (!t230)))
theorem conventiclelaw16_BallotPicks.mono_l : ∀ k, (∀ y0 y1, LeO (conventiclelaw16_BallotPicks.j0 k y0 y1) (conventiclelaw16_BallotPicks.j0 (k + 1) y0 y1)) ∧ (∀ y0 y1 y2 y3 y4 y5, LeO (conventiclelaw16_BallotPicks.l0 k y0 y1 y2 y3 y4 y5) (conventiclelaw16_BallotPicks.l0 (k + 1) y0 y1 y2 y3 y4 y5)) ∧ (∀ y0 y1 y2 y3 y4 y5, LeO (conventiclelaw16_BallotPicks.l1 k y0 y1 y2 y3 y4 y5) (conventiclelaw16_BallotPicks.l1 (k + 1) y0 y1 y2 y3 y4 y5))
  | 0 => ⟨fun _ _ r h => by simp [conventiclelaw16_BallotPicks.j0] at h, fun _ _ _ _ _ _ r h => by simp [conventiclelaw16_BallotPicks.l0] at h, fun _ _ _ _ _ _ r h => by simp [conventiclelaw16_BallotPicks.l1] at h⟩
  | k + 1 => by
    obtain ⟨ih0, ih1, ih2⟩ := conventiclelaw16_BallotPicks.mono_l k
    refine ⟨?_, ?_, ?_⟩
    · intro y0 y1
      unfold conventiclelaw16_BallotPicks.j0
      repeat' first
      | (with_reducible exact ih0 _ _)
      | (with_reducible exact ih1 _ _ _ _ _ _)
      | (with_reducible exact ih2 _ _ _ _ _ _)
      | (with_reducible exact LeO.refl _)
      | (with_reducible exact LeO.none _)
      | (with_reducible refine LeO.ite ?_ ?_)
      | (with_reducible refine LeO.bind ?_ (fun _ => ?_))
      | exact ih0 _ _
      | exact ih1 _ _ _ _ _ _
      | exact ih2 _ _ _ _ _ _
      | exact LeO.none _
      | refine LeO.ite ?_ ?_
      | refine LeO.bind ?_ (fun _ => ?_)
    · intro y0 y1 y2 y3 y4 y5
      unfold conventiclelaw16_BallotPicks.l0
      repeat' first
      | (with_reducible exact ih0 _ _)
      | (with_reducible exact ih1 _ _ _ _ _ _)
      | (with_reducible exact ih2 _ _ _ _ _ _)
      | (with_reducible exact LeO.refl _)
      | (with_reducible exact LeO.none _)
      | (with_reducible refine LeO.ite ?_ ?_)
      | (with_reducible refine LeO.bind ?_ (fun _ => ?_))
      | exact ih0 _ _
      | exact ih1 _ _ _ _ _ _
      | exact ih2 _ _ _ _ _ _
      | exact LeO.none _
      | refine LeO.ite ?_ ?_
      | refine LeO.bind ?_ (fun _ => ?_)
    · intro y0 y1 y2 y3 y4 y5
      unfold conventiclelaw16_BallotPicks.l1
      repeat' first
      | (with_reducible exact ih0 _ _)
      | (with_reducible exact ih1 _ _ _ _ _ _)
      | (with_reducible exact ih2 _ _ _ _ _ _)
      | (with_reducible exact LeO.refl _)
      | (with_reducible exact LeO.none _)
      | (with_reducible refine LeO.ite ?_ ?_)
      | (with_reducible refine LeO.bind ?_ (fun _ => ?_))
      | exact ih0 _ _
      | exact ih1 _ _ _ _ _ _
      | exact ih2 _ _ _ _ _ _
      | exact LeO.none _
      | refine LeO.ite ?_ ?_
      | refine LeO.bind ?_ (fun _ => ?_)
theorem conventiclelaw16_BallotPicks.mono : ∀ a0 k, LeO (conventiclelaw16_BallotPicks.f k a0) (conventiclelaw16_BallotPicks.f (k + 1) a0) := by
  intro a0 k
  obtain ⟨ih0, ih1, ih2⟩ := conventiclelaw16_BallotPicks.mono_l k
  unfold conventiclelaw16_BallotPicks.f
  repeat' first
      | (with_reducible exact ih0 _ _)
      | (with_reducible exact ih1 _ _ _ _ _ _)
      | (with_reducible exact ih2 _ _ _ _ _ _)
      | (with_reducible exact LeO.refl _)
      | (with_reducible exact LeO.none _)
      | (with_reducible refine LeO.ite ?_ ?_)
      | (with_reducible refine LeO.bind ?_ (fun _ => ?_))
      | exact ih0 _ _
      | exact ih1 _ _ _ _ _ _
      | exact ih2 _ _ _ _ _ _
      | exact LeO.none _
      | refine LeO.ite ?_ ?_
      | refine LeO.bind ?_ (fun _ => ?_)
set_option maxHeartbeats 8000000 in
set_option maxRecDepth 100000 in
theorem conventiclelaw16_BallotPicks.calls (k : Nat) (A0 : Option Addr) (c0 : Nat) (l0 : List (S29)) (r : Bool) (w : World) (hr0 : Kd.C k29 w A0 l0.length l0) (hc0 : l0.length ≤ c0) (h : conventiclelaw16_BallotPicks.f k l0 = some r) :
    Calls Try.prog 4 #[.slice A0 l0.length c0] w fun e w' => e = .returned (.bool r) ∧ Below w.heap.size w w' := by
  have hu27 := Try.underlying27
  have HR0 := Aside0.mk hr0
  have HC0 := Aside0.mk hc0
  clear hr0 hc0
  have HB := Aside0.mk (Below.refl w.heap.size w)
  have H : (if (l0.length : Int) > 100 then (conventiclelaw16_BallotPicks.j0 k l0 true) else ((conventiclelaw16_shown.f).bind fun t230 => (conventiclelaw16_BallotPicks.j0 k l0 (!t230)))) = some r := h
  clear h
  have HC2 := Aside0.mk H
  clear H
  go_enter Try.func4, Try.ntmps4
  go_upto_region 1 with (fail)
  repeat (go_quiet (fail); go_upto_region 1 with (fail))
  go_cut [14] (fun v14 wc => ∃ (kq : Nat) (x14_1 : Bool), v14 = .bool x14_1 ∧ Aside0 (conventiclelaw16_BallotPicks.j0 kq l0 x14_1 = some r) ∧ Aside0 (kq ≤ k) ∧ Aside0 (Below w.heap.size w wc))
  case first =>
    have H := HC2.out
    clear HC2
    by_cases c3 : (l0.length : Int) > 100
    · rw [if_pos c3] at H
      have c3b0 : decide (100 < (l0.length : Int)) = true := decide_eq_true c3
      have c3b1 : decide (100 < l0.length) = true := decide_eq_true (by omega)
      clear c3
      (first | rw [c3b0] | (simp only [i64_w, i32_w]; rw [c3b0]) | skip)
      have H' := Aside0.mk H
      clear H
      go_wp2
      repeat (go_quiet (fail); try go_wp2)
      go_meet
      case rel => exact ⟨_, (true), (by first | rfl | (simp; done) | (simp [*]; done)), H', ⟨by first | omega | exact Nat.le_refl _⟩, ⟨by repeat (first | (with_reducible first | exact HB.out | apply below_alloc | apply pw_below_drewN | apply below_drew1) | exact HB.out)⟩⟩
    · rw [if_neg c3] at H
      have c3b0 : decide (100 < (l0.length : Int)) = false := decide_eq_false c3
      have c3b1 : decide (100 < l0.length) = false := decide_eq_false (by omega)
      clear c3
      (first | rw [c3b0] | (simp only [i64_w, i32_w]; rw [c3b0]) | skip)
      replace H := Option.bind_eq_some_iff.mp H
      obtain ⟨t230, A40, H⟩ := H
      replace H : (conventiclelaw16_BallotPicks.j0 k l0 (!t230)) = some r := H
      have A4 := Aside0.mk A40
      clear A40
      have H' := Aside0.mk H
      clear H
      go_wp2_with (first | (go_at_call 8; (with_reducible refine (conventiclelaw16_shown.calls  t230 _ A4.out).mono ?_); rintro e w5 ⟨rfl, hb⟩; have n0_ := Aside0.mk (below_step (by repeat (first | (with_reducible first | exact HB.out | apply below_alloc | apply pw_below_drewN | apply below_drew1) | exact HB.out)) hb); clear HB; have HB := n0_; clear n0_; (try clear hb); (try clear hb2); (try clear hk); (try clear hi)))
      repeat (go_quiet (first | (go_at_call 8; (with_reducible refine (conventiclelaw16_shown.calls  t230 _ A4.out).mono ?_); rintro e w5 ⟨rfl, hb⟩; have n0_ := Aside0.mk (below_step (by repeat (first | (with_reducible first | exact HB.out | apply below_alloc | apply pw_below_drewN | apply below_drew1) | exact HB.out)) hb); clear HB; have HB := n0_; clear n0_; (try clear hb); (try clear hb2); (try clear hk); (try clear hi))); try go_wp2_with (first | (go_at_call 8; (with_reducible refine (conventiclelaw16_shown.calls  t230 _ A4.out).mono ?_); rintro e w5 ⟨rfl, hb⟩; have n0_ := Aside0.mk (below_step (by repeat (first | (with_reducible first | exact HB.out | apply below_alloc | apply pw_below_drewN | apply below_drew1) | exact HB.out)) hb); clear HB; have HB := n0_; clear n0_; (try clear hb); (try clear hb2); (try clear hk); (try clear hi))))
      go_meet
      case rel => exact ⟨_, (!t230), (by first | rfl | (simp; done) | (simp [*]; done)), H', ⟨by first | omega | exact Nat.le_refl _⟩, ⟨by repeat (first | (with_reducible first | exact HB.out | apply below_alloc | apply pw_below_drewN | apply below_drew1) | exact HB.out)⟩⟩
  case rest =>
    clear HC2
    try clear p2
    try clear c3
    try clear c3b0
    try clear c3b1
    try clear c4
    obtain ⟨kq, x14_1, rfl, HA, HJ1, HB⟩ := hcut
    cases kq with
    | zero => exact absurd HA.out (by simp [conventiclelaw16_BallotPicks.j0])
    | succ kj1 =>
      have H := HA.out
      clear HA
      simp only [conventiclelaw16_BallotPicks.j0] at H
      by_cases c6 : x14_1 = true
      · subst c6
        have H1 : ((conventiclelaw16_shown.f).bind fun t231 => (some t231)) = some r := by rw [if_pos rfl] at H; exact H
        clear H
        have H := H1
        clear H1
        replace H := Option.bind_eq_some_iff.mp H
        obtain ⟨t231, A70, H⟩ := H
        replace H : (some t231) = some r := H
        have A7 := Aside0.mk A70
        clear A70
        obtain rfl := Option.some.inj H
        go_wp2_with (first | (go_at_call 8; (with_reducible refine (conventiclelaw16_shown.calls  t231 _ A7.out).mono ?_); rintro e w8 ⟨rfl, hb⟩; have n0_ := Aside0.mk (below_step (by repeat (first | (with_reducible first | exact HB.out | apply below_alloc | apply pw_below_drewN | apply below_drew1) | exact HB.out)) hb); clear HB; have HB := n0_; clear n0_; (try clear hb); (try clear hb2); (try clear hk); (try clear hi)))
        repeat (go_quiet (first | (go_at_call 8; (with_reducible refine (conventiclelaw16_shown.calls  t231 _ A7.out).mono ?_); rintro e w8 ⟨rfl, hb⟩; have n0_ := Aside0.mk (below_step (by repeat (first | (with_reducible first | exact HB.out | apply below_alloc | apply pw_below_drewN | apply below_drew1) | exact HB.out)) hb); clear HB; have HB := n0_; clear n0_; (try clear hb); (try clear hb2); (try clear hk); (try clear hi))); try go_wp2_with (first | (go_at_call 8; (with_reducible refine (conventiclelaw16_shown.calls  t231 _ A7.out).mono ?_); rintro e w8 ⟨rfl, hb⟩; have n0_ := Aside0.mk (below_step (by repeat (first | (with_reducible first | exact HB.out | apply below_alloc | apply pw_below_drewN | apply below_drew1) | exact HB.out)) hb); clear HB; have HB := n0_; clear n0_; (try clear hb); (try clear hb2); (try clear hk); (try clear hi))))
        go_ret
        exact ⟨by first | rfl | (simp [errW_none, errW_some] <;> rfl) | (simp [*, errW_none, errW_some] <;> rfl), by repeat (first | (with_reducible first | exact HB.out | apply below_alloc | apply pw_below_drewN | apply below_drew1) | exact HB.out)⟩
      · replace c6 := Bool.eq_false_iff.mpr c6
        subst c6
        have H1 : ((ballot_Pick.f l0).bind fun bt232 => (conventiclelaw16_BallotPicks.l0 kj1 l0 bt232.2.2 0 0 bt232.1 bt232.2.1)) = some r := by rw [if_neg (show ¬ (false = true) by decide)] at H; exact H
        clear H
        have H := H1
        clear H1
        replace H := Option.bind_eq_some_iff.mp H
        obtain ⟨⟨t232, t233, t234⟩, A90, H⟩ := H
        replace H : (conventiclelaw16_BallotPicks.l0 kj1 l0 t234 0 0 t232 t233) = some r := H
        have A9 := Aside0.mk A90
        clear A90
        have H' := Aside0.mk H
        clear H
        go_wp2_with (first | (go_at_call 13; (with_reducible refine (ballot_Pick.calls _ _ l0 t232 t233 t234 _ ?side1 ?side2 A9.out).mono ?_); (case side1 => repeat (first | exact (Kd.C_below HR0.out HB.out) | (with_reducible refine Kd.C_alloc ?_ _) | (with_reducible refine Kd.C_drewN ?_ _) | (with_reducible refine Kd.C_drew ?_))); (case side2 => exact HC0.out); rintro e w10 ⟨rfl, hb⟩; have n0_ := Aside0.mk (below_step (by repeat (first | (with_reducible first | exact HB.out | apply below_alloc | apply pw_below_drewN | apply below_drew1) | exact HB.out)) hb); clear HB; have HB := n0_; clear n0_; (try clear hb); (try clear hb2); (try clear hk); (try clear hi)) | ((with_reducible refine gate_dst (N := 3) rfl ?_); refine box_event ?hg (N := 3) ?hd (cs := #[.int .u64 0, .int .u64 0]) (t := 27) ?hr ?_; (case hd => rfl); (case hg => rfl); (case hr => first | (go_simp; done) | (go_simp; rfl)); intro gb235 hg w11 hbox hb; have n0_ := Aside0.mk (below_step (by repeat (first | (with_reducible first | exact HB.out | apply below_alloc | apply pw_below_drewN | apply below_drew1) | exact HB.out)) hb); have n1_ := Aside0.mk (hbox); have n2_ := Aside0.mk ((by rw [hg]; exact (below_size (by repeat (first | (with_reducible first | exact HB.out | apply below_alloc | apply pw_below_drewN | apply below_drew1) | exact HB.out))) : w.heap.size ≤ gb235)); have n3_ := Aside0.mk ((by rw [hg]; exact (below_size (by repeat (first | (with_reducible first | exact HB.out | apply below_alloc | apply pw_below_drewN | apply below_drew1) | exact HB.out))) : w.heap.size ≤ gb235)); clear HB; have HB := n0_; have BK235 := n1_; have GW235 := n2_; have GE235 := n3_; clear n0_ n1_ n2_ n3_; clear hb hbox hg; have hcz12_0 : w11.cell? ⟨gb235, 0, none⟩ = some (.int .u64 0) := (blk_cell BK235.out 0).trans rfl; have hcz12_1 : w11.cell? ⟨gb235, 1, none⟩ = some (.int .u64 0) := (blk_cell BK235.out 1).trans rfl; have hfz12_0 := blk_frozen BK235.out 0; have hfz12_1 := blk_frozen BK235.out 1))
        repeat (go_quiet (first | (go_at_call 13; (with_reducible refine (ballot_Pick.calls _ _ l0 t232 t233 t234 _ ?side1 ?side2 A9.out).mono ?_); (case side1 => repeat (first | exact (Kd.C_below HR0.out HB.out) | (with_reducible refine Kd.C_alloc ?_ _) | (with_reducible refine Kd.C_drewN ?_ _) | (with_reducible refine Kd.C_drew ?_))); (case side2 => exact HC0.out); rintro e w10 ⟨rfl, hb⟩; have n0_ := Aside0.mk (below_step (by repeat (first | (with_reducible first | exact HB.out | apply below_alloc | apply pw_below_drewN | apply below_drew1) | exact HB.out)) hb); clear HB; have HB := n0_; clear n0_; (try clear hb); (try clear hb2); (try clear hk); (try clear hi)) | ((with_reducible refine gate_dst (N := 3) rfl ?_); refine box_event ?hg (N := 3) ?hd (cs := #[.int .u64 0, .int .u64 0]) (t := 27) ?hr ?_; (case hd => rfl); (case hg => rfl); (case hr => first | (go_simp; done) | (go_simp; rfl)); intro gb235 hg w11 hbox hb; have n0_ := Aside0.mk (below_step (by repeat (first | (with_reducible first | exact HB.out | apply below_alloc | apply pw_below_drewN | apply below_drew1) | exact HB.out)) hb); have n1_ := Aside0.mk (hbox); have n2_ := Aside0.mk ((by rw [hg]; exact (below_size (by repeat (first | (with_reducible first | exact HB.out | apply below_alloc | apply pw_below_drewN | apply below_drew1) | exact HB.out))) : w.heap.size ≤ gb235)); have n3_ := Aside0.mk ((by rw [hg]; exact (below_size (by repeat (first | (with_reducible first | exact HB.out | apply below_alloc | apply pw_below_drewN | apply below_drew1) | exact HB.out))) : w.heap.size ≤ gb235)); clear HB; have HB := n0_; have BK235 := n1_; have GW235 := n2_; have GE235 := n3_; clear n0_ n1_ n2_ n3_; clear hb hbox hg; have hcz12_0 : w11.cell? ⟨gb235, 0, none⟩ = some (.int .u64 0) := (blk_cell BK235.out 0).trans rfl; have hcz12_1 : w11.cell? ⟨gb235, 1, none⟩ = some (.int .u64 0) := (blk_cell BK235.out 1).trans rfl; have hfz12_0 := blk_frozen BK235.out 0; have hfz12_1 := blk_frozen BK235.out 1)); try go_wp2_with (first | (go_at_call 13; (with_reducible refine (ballot_Pick.calls _ _ l0 t232 t233 t234 _ ?side1 ?side2 A9.out).mono ?_); (case side1 => repeat (first | exact (Kd.C_below HR0.out HB.out) | (with_reducible refine Kd.C_alloc ?_ _) | (with_reducible refine Kd.C_drewN ?_ _) | (with_reducible refine Kd.C_drew ?_))); (case side2 => exact HC0.out); rintro e w10 ⟨rfl, hb⟩; have n0_ := Aside0.mk (below_step (by repeat (first | (with_reducible first | exact HB.out | apply below_alloc | apply pw_below_drewN | apply below_drew1) | exact HB.out)) hb); clear HB; have HB := n0_; clear n0_; (try clear hb); (try clear hb2); (try clear hk); (try clear hi)) | ((with_reducible refine gate_dst (N := 3) rfl ?_); refine box_event ?hg (N := 3) ?hd (cs := #[.int .u64 0, .int .u64 0]) (t := 27) ?hr ?_; (case hd => rfl); (case hg => rfl); (case hr => first | (go_simp; done) | (go_simp; rfl)); intro gb235 hg w11 hbox hb; have n0_ := Aside0.mk (below_step (by repeat (first | (with_reducible first | exact HB.out | apply below_alloc | apply pw_below_drewN | apply below_drew1) | exact HB.out)) hb); have n1_ := Aside0.mk (hbox); have n2_ := Aside0.mk ((by rw [hg]; exact (below_size (by repeat (first | (with_reducible first | exact HB.out | apply below_alloc | apply pw_below_drewN | apply below_drew1) | exact HB.out))) : w.heap.size ≤ gb235)); have n3_ := Aside0.mk ((by rw [hg]; exact (below_size (by repeat (first | (with_reducible first | exact HB.out | apply below_alloc | apply pw_below_drewN | apply below_drew1) | exact HB.out))) : w.heap.size ≤ gb235)); clear HB; have HB := n0_; have BK235 := n1_; have GW235 := n2_; have GE235 := n3_; clear n0_ n1_ n2_ n3_; clear hb hbox hg; have hcz12_0 : w11.cell? ⟨gb235, 0, none⟩ = some (.int .u64 0) := (blk_cell BK235.out 0).trans rfl; have hcz12_1 : w11.cell? ⟨gb235, 1, none⟩ = some (.int .u64 0) := (blk_cell BK235.out 1).trans rfl; have hfz12_0 := blk_frozen BK235.out 0; have hfz12_1 := blk_frozen BK235.out 1)))
        go_loopg [5, 6] kj1 (fun kq v5 v6 w' => ∃ (x5_2 : Int) (x6_2 : Int), v5 = .int .u64 x5_2 ∧ v6 = .int .i64 x6_2 ∧ Aside0 (conventiclelaw16_BallotPicks.l0 kq l0 t234 x5_2 x6_2 t232 t233 = some r) ∧ Aside0 (kq ≤ kj1) ∧ Aside0 (w'.heap[gb235]? = some (.cells #[.int .u64 t232, .int .u64 t233] 27 (0, 0))) ∧ Aside0 (Below w.heap.size w w'))
        case atStart => exact ⟨(0), (0), (by first | rfl | (simp; done) | (simp [*]; done)), (by first | rfl | (simp; done) | (simp [*]; done)), H', ⟨Nat.le_refl _⟩, ⟨by (with_reducible repeat (first | refine blk_drewN ?_ _ | refine blk_drew ?_ | refine blk_alloc ?_ _)); refine blk_put (cs := #[.int .u64 t232, .int .u64 0]) ?_ 1 _ rfl; (with_reducible repeat (first | refine blk_drewN ?_ _ | refine blk_drew ?_ | refine blk_alloc ?_ _)); refine blk_put (cs := #[.int .u64 0, .int .u64 0]) ?_ 0 _ rfl; (with_reducible repeat (first | refine blk_drewN ?_ _ | refine blk_drew ?_ | refine blk_alloc ?_ _)); exact BK235.out⟩, ⟨by repeat (first | (with_reducible first | exact HB.out | apply below_alloc | apply pw_below_drewN | apply below_drew1 | refine below_set ?_ GE235.out) | exact HB.out)⟩⟩
        case round =>
          clear H'
          try clear p2
          try clear c3
          try clear c3b0
          try clear c3b1
          try clear c4
          try clear c6
          try clear hcz12_0
          try clear hcz12_1
          try clear hfz12_0
          try clear hfz12_1
          try clear p2
          obtain ⟨x5_2, x6_2, rfl, rfl, HA, HK2, BK235, HB⟩ := hrel
          cases gk with
          | zero => exact absurd HA.out (by simp [conventiclelaw16_BallotPicks.l0])
          | succ k2 =>
            have H := HA.out
            clear HA
            simp only [conventiclelaw16_BallotPicks.l0] at H
            by_cases c13 : x6_2 < (l0.length : Int)
            · rw [if_pos c13] at H
              have c13b0 : decide (x6_2 < (l0.length : Int)) = true := decide_eq_true c13
              clear c13
              by_cases c14 : 0 ≤ x6_2
              · rw [if_pos c14] at H
                have c14b0 : decide (0 ≤ x6_2) = true := decide_eq_true c14
                clear c14
                obtain ⟨ji15, hji15⟩ : ∃ j_ : Int, (mx x5_2 ((rd_T29 l0 x6_2).f0)) = j_ := ⟨_, rfl⟩
                replace H : (conventiclelaw16_BallotPicks.l0 k2 l0 t234 ji15 (wrap64 (x6_2 + 1)) t232 t233) = some r := by first | (rw [hji15] at H; exact H) | (simp only [hji15] at H ⊢; exact H)
                have hji15_ : (if x5_2 < ((rd_T29 l0 x6_2).f0) then ((rd_T29 l0 x6_2).f0) else x5_2) = ji15 := hji15
                have H' := Aside0.mk H
                clear H
                have p236 : 0 ≤ (x6_2 : Int) := of_decide_eq_true (by first | (with_reducible assumption) | assumption)
                have q236 : x6_2 < (l0.length : Int) := of_decide_eq_true (by first | (with_reducible assumption) | assumption)
                obtain ⟨ad236, e236, hx236_0, hx236_1, hx236_2⟩ := at_T29 HR0.out x6_2 p236 q236
                cases e236
                replace hx236_0 := (HB.out.cell (World.block_lt_of_cell? w _ hx236_0)).trans hx236_0
                replace hx236_1 := (HB.out.cell (World.block_lt_of_cell? w _ hx236_1)).trans hx236_1
                replace hx236_2 := (HB.out.cell (World.block_lt_of_cell? w _ hx236_2)).trans hx236_2
                replace p236 := eq_true p236
                replace q236 := eq_true q236
                go_wp2
                repeat (go_quiet (fail); try go_wp2)
                go_roundg k2
                case measure => have := HJ1.out; have := HK2.out; omega
                case rel => exact ⟨(ji15), (wrap64 (x6_2 + 1)), (by first | rfl | (simp; done) | (simp only [← hji15] <;> (first | rfl | simp)) | (simp [*]; done)), (by first | rfl | (simp; done) | (simp [*]; done)), H', ⟨by have := HJ1.out; have := HK2.out; omega⟩, ⟨by (with_reducible repeat (first | refine blk_drewN ?_ _ | refine blk_drew ?_ | refine blk_alloc ?_ _)); exact BK235.out⟩, ⟨by repeat (first | (with_reducible first | exact HB.out | apply below_alloc | apply pw_below_drewN | apply below_drew1 | refine below_set ?_ GE235.out) | exact HB.out)⟩⟩
              · rw [if_neg c14] at H
                exact absurd H (by simp)
            · rw [if_neg c13] at H
              have c13b0 : decide (x6_2 < (l0.length : Int)) = false := decide_eq_false c13
              clear c13
              by_cases c16 : x5_2 = 0
              · rw [if_pos c16] at H
                have c16b0 : (x5_2 == 0) = true := beq_iff_eq.mpr c16
                have c16b1 : (x5_2 != 0) = false := bne_eq_false_iff_eq.mpr c16
                clear c16
                by_cases c17 : t234 = true
                · subst c17
                  have H1 : (none) = some r := by rw [if_pos rfl] at H; exact H
                  clear H
                  have H := H1
                  clear H1
                  exact absurd H (by simp)
                · replace c17 := Bool.eq_false_iff.mpr c17
                  subst c17
                  have H1 : (some (t232 == 0 && (t233 == 0))) = some r := by rw [if_neg (show ¬ (false = true) by decide)] at H; exact H
                  clear H
                  have H := H1
                  clear H1
                  obtain rfl := Option.some.inj H
                  have hcz18_0 : wr.cell? ⟨gb235, 0, none⟩ = some (.int .u64 t232) := (blk_cell BK235.out 0).trans rfl
                  have hcz18_1 : wr.cell? ⟨gb235, 1, none⟩ = some (.int .u64 t233) := (blk_cell BK235.out 1).trans rfl
                  have hfz18_0 := blk_frozen BK235.out 0
                  have hfz18_1 := blk_frozen BK235.out 1
                  go_wp2
                  repeat (go_quiet (fail); try go_wp2)
                  go_ret
                  exact ⟨by first | rfl | (simp [errW_none, errW_some] <;> rfl) | (simp [*, errW_none, errW_some] <;> rfl), by repeat (first | (with_reducible first | exact HB.out | apply below_alloc | apply pw_below_drewN | apply below_drew1 | refine below_set ?_ GE235.out) | exact HB.out)⟩
              · rw [if_neg c16] at H
                have c16b0 : (x5_2 == 0) = false := beq_eq_false_iff_ne.mpr c16
                have c16b1 : (x5_2 != 0) = true := bne_iff_ne.mpr c16
                have H' := Aside0.mk H
                clear H
                go_wp2
                repeat (go_quiet (fail); try go_wp2)
                go_loopg [7] k2 (fun kq v7 w' => ∃ (x7_3 : Int), v7 = .int .i64 x7_3 ∧ Aside0 (conventiclelaw16_BallotPicks.l1 kq l0 t234 x5_2 x7_3 t232 t233 = some r) ∧ Aside0 (kq ≤ k2) ∧ Aside0 (w'.heap[gb235]? = some (.cells #[.int .u64 t232, .int .u64 t233] 27 (0, 0))) ∧ Aside0 (Below w.heap.size w w'))
                case atStart => exact ⟨(0), (by first | rfl | (simp; done) | (simp [*]; done)), H', ⟨Nat.le_refl _⟩, ⟨by (with_reducible repeat (first | refine blk_drewN ?_ _ | refine blk_drew ?_ | refine blk_alloc ?_ _)); exact BK235.out⟩, ⟨by repeat (first | (with_reducible first | exact HB.out | apply below_alloc | apply pw_below_drewN | apply below_drew1 | refine below_set ?_ GE235.out) | exact HB.out)⟩⟩
                case round =>
                  clear H'
                  try clear c1
                  try clear p2
                  try clear q2
                  try clear hx2
                  try clear c3
                  try clear c3b0
                  try clear c3b1
                  try clear c4
                  try clear c6
                  try clear p6
                  try clear c13
                  try clear c13b0
                  try clear c14
                  try clear c14b0
                  try clear c16
                  try clear c16b0
                  try clear c16b1
                  try clear c17
                  try clear hcz12_0
                  try clear hcz12_1
                  try clear hcz18_0
                  try clear hcz18_1
                  try clear hfz12_0
                  try clear hfz12_1
                  try clear hfz18_0
                  try clear hfz18_1
                  try clear hx236_0
                  try clear hx236_1
                  try clear hx236_2
                  try clear p2
                  try clear p236
                  try clear q236
                  obtain ⟨x7_3, rfl, HA, HK3, BK235, HB⟩ := hrel
                  cases gk with
                  | zero => exact absurd HA.out (by simp [conventiclelaw16_BallotPicks.l1])
                  | succ k3 =>
                    have H := HA.out
                    clear HA
                    simp only [conventiclelaw16_BallotPicks.l1] at H
                    by_cases c19 : x7_3 < (l0.length : Int)
                    · rw [if_pos c19] at H
                      have c19b0 : decide (x7_3 < (l0.length : Int)) = true := decide_eq_true c19
                      clear c19
                      by_cases c20 : 0 ≤ x7_3
                      · rw [if_pos c20] at H
                        have c20b0 : decide (0 ≤ x7_3) = true := decide_eq_true c20
                        clear c20
                        by_cases c21 : ((rd_T29 l0 x7_3).f0) = x5_2
                        · rw [if_pos c21] at H
                          have c21b0 : (((rd_T29 l0 x7_3).f0) == x5_2) = true := beq_iff_eq.mpr c21
                          have c21b1 : (((rd_T29 l0 x7_3).f0) != x5_2) = false := bne_eq_false_iff_eq.mpr c21
                          clear c21
                          by_cases c22 : t234 = true
                          · subst c22
                            have H1 : (some (t232 == ((rd_T29 l0 x7_3).f1.f0) && (t233 == ((rd_T29 l0 x7_3).f1.f1)))) = some r := by rw [if_pos rfl] at H; exact H
                            clear H
                            have H := H1
                            clear H1
                            obtain rfl := Option.some.inj H
                            have p237 : 0 ≤ (x7_3 : Int) := of_decide_eq_true (by first | (with_reducible assumption) | assumption)
                            have q237 : x7_3 < (l0.length : Int) := of_decide_eq_true (by first | (with_reducible assumption) | assumption)
                            obtain ⟨ad237, e237, hx237_0, hx237_1, hx237_2⟩ := at_T29 HR0.out x7_3 p237 q237
                            cases e237
                            replace hx237_0 := (HB.out.cell (World.block_lt_of_cell? w _ hx237_0)).trans hx237_0
                            replace hx237_1 := (HB.out.cell (World.block_lt_of_cell? w _ hx237_1)).trans hx237_1
                            replace hx237_2 := (HB.out.cell (World.block_lt_of_cell? w _ hx237_2)).trans hx237_2
                            replace p237 := eq_true p237
                            replace q237 := eq_true q237
                            have hcz23_0 : wr.cell? ⟨gb235, 0, none⟩ = some (.int .u64 t232) := (blk_cell BK235.out 0).trans rfl
                            have hcz23_1 : wr.cell? ⟨gb235, 1, none⟩ = some (.int .u64 t233) := (blk_cell BK235.out 1).trans rfl
                            have hfz23_0 := blk_frozen BK235.out 0
                            have hfz23_1 := blk_frozen BK235.out 1
                            have p238 : 0 ≤ (x7_3 : Int) := of_decide_eq_true (by first | (with_reducible assumption) | assumption)
                            have q238 : x7_3 < (l0.length : Int) := of_decide_eq_true (by first | (with_reducible assumption) | assumption)
                            obtain ⟨ad238, e238, hx238_0, hx238_1, hx238_2⟩ := at_T29 HR0.out x7_3 p238 q238
                            obtain rfl : ad237 = ad238 := (by injection e238)
                            replace hx238_0 := (HB.out.cell (World.block_lt_of_cell? w _ hx238_0)).trans hx238_0
                            replace hx238_1 := (HB.out.cell (World.block_lt_of_cell? w _ hx238_1)).trans hx238_1
                            replace hx238_2 := (HB.out.cell (World.block_lt_of_cell? w _ hx238_2)).trans hx238_2
                            replace p238 := eq_true p238
                            replace q238 := eq_true q238
                            go_wp2
                            repeat (go_quiet (fail); try go_wp2)
                            go_ret
                            exact ⟨by first | rfl | (simp [errW_none, errW_some] <;> rfl) | (simp [*, errW_none, errW_some] <;> rfl), by repeat (first | (with_reducible first | exact HB.out | apply below_alloc | apply pw_below_drewN | apply below_drew1 | refine below_set ?_ GE235.out) | exact HB.out)⟩
                          · replace c22 := Bool.eq_false_iff.mpr c22
                            subst c22
                            have H1 : (none) = some r := by rw [if_neg (show ¬ (false = true) by decide)] at H; exact H
                            clear H
                            have H := H1
                            clear H1
                            exact absurd H (by simp)
                        · rw [if_neg c21] at H
                          have c21b0 : (((rd_T29 l0 x7_3).f0) == x5_2) = false := beq_eq_false_iff_ne.mpr c21
                          have c21b1 : (((rd_T29 l0 x7_3).f0) != x5_2) = true := bne_iff_ne.mpr c21
                          have H' := Aside0.mk H
                          clear H
                          have p237 : 0 ≤ (x7_3 : Int) := of_decide_eq_true (by first | (with_reducible assumption) | assumption)
                          have q237 : x7_3 < (l0.length : Int) := of_decide_eq_true (by first | (with_reducible assumption) | assumption)
                          obtain ⟨ad237, e237, hx237_0, hx237_1, hx237_2⟩ := at_T29 HR0.out x7_3 p237 q237
                          cases e237
                          replace hx237_0 := (HB.out.cell (World.block_lt_of_cell? w _ hx237_0)).trans hx237_0
                          replace hx237_1 := (HB.out.cell (World.block_lt_of_cell? w _ hx237_1)).trans hx237_1
                          replace hx237_2 := (HB.out.cell (World.block_lt_of_cell? w _ hx237_2)).trans hx237_2
                          replace p237 := eq_true p237
                          replace q237 := eq_true q237
                          go_wp2
                          repeat (go_quiet (fail); try go_wp2)
                          go_roundg k3
                          case measure => have := HJ1.out; have := HK2.out; have := HK3.out; omega
                          case rel => exact ⟨(wrap64 (x7_3 + 1)), (by first | rfl | (simp; done) | (simp [*]; done)), H', ⟨by have := HJ1.out; have := HK2.out; have := HK3.out; omega⟩, ⟨by (with_reducible repeat (first | refine blk_drewN ?_ _ | refine blk_drew ?_ | refine blk_alloc ?_ _)); exact BK235.out⟩, ⟨by repeat (first | (with_reducible first | exact HB.out | apply below_alloc | apply pw_below_drewN | apply below_drew1 | refine below_set ?_ GE235.out) | exact HB.out)⟩⟩
                      · rw [if_neg c20] at H
                        exact absurd H (by simp)
                    · rw [if_neg c19] at H
                      exact absurd H (by simp)

/-- THE ONE PURE STATEMENT of conventiclelaw16_BallotPicks: yours. -/
def conventiclelaw16_BallotPicks.Pure : Prop := ∀ (l0 : List (S29)), (l0.length ≤ maxLen ∧ ∀ a ∈ l0, wf29 a) → ∃ k, conventiclelaw16_BallotPicks.f k l0 = some true
theorem conventiclelaw16_BallotPicks.walk (P : conventiclelaw16_BallotPicks.Pure) (A0 : Option Addr) (c0 : Nat) (l0 : List (S29)) (w : World) (hr0 : Kd.C k29 w A0 l0.length l0) (hc0 : l0.length ≤ c0) (w0 : (l0.length ≤ maxLen ∧ ∀ a ∈ l0, wf29 a)) :
    Calls Try.prog 4 #[.slice A0 l0.length c0] w fun e w' => e = .returned (.bool true) ∧ Below w.heap.size w w' := by
  obtain ⟨k, h⟩ := P l0 w0
  refine (conventiclelaw16_BallotPicks.calls k _ _ l0 true w hr0 hc0 h).mono ?_
  rintro e w' ⟨rfl, hd⟩
  exact ⟨rfl, hd⟩

/-! ### conventiclelaw16_BallotOwns: function 5 -/
def conventiclelaw16_BallotOwns.f (a0 : Int) (a1 : Int) (a2 : Int) (a3 : Int) : Option (Bool) := (ballot_Number.f (IntKind.u64.wrap (a0)) (Int.tmod (wrap64 (a2)) 64)).bind fun bt239 => ((ballot_Number.f (IntKind.u64.wrap (a1)) (Int.tmod (wrap64 (a3)) 64)).bind fun bt241 => ((ballot_Owner.f bt239.1).bind fun bt243 => (if bt239.2 = 0 then (if bt241.2 = 0 then (if bt243.1 = (IntKind.u64.wrap (a0)) then (if bt243.2.1 = (Int.tmod (wrap64 (a2)) 64) then (if bt243.2.2 = true then ((conventiclelaw16_shown.f).bind fun t246 => (if t246 = true then (if a0 = a1 then (if ((bt239.1 == bt241.1) == ((Int.tmod a2 64) == (Int.tmod a3 64))) = true then (if a0 ≤ a1 then (some true) else (some (decide (bt239.1 > bt241.1)))) else (none)) else (if ((bt239.1 == bt241.1) == false) = true then (if a0 ≤ a1 then (some true) else (some (decide (bt239.1 > bt241.1)))) else (none))) else (none))) else (none)) else (none)) else (none)) else (none)) else (none))))
set_option maxHeartbeats 8000000 in
set_option maxRecDepth 100000 in
theorem conventiclelaw16_BallotOwns.calls (a0 : Int) (a1 : Int) (a2 : Int) (a3 : Int) (r : Bool) (w : World) (h : conventiclelaw16_BallotOwns.f a0 a1 a2 a3 = some r) :
    Calls Try.prog 5 #[.int .u32 a0, .int .u32 a1, .int .u8 a2, .int .u8 a3] w fun e w' => e = .returned (.bool r) ∧ Below w.heap.size w w' := by
  have HB := Aside0.mk (Below.refl w.heap.size w)
  have H : ((ballot_Number.f (IntKind.u64.wrap (a0)) (Int.tmod (wrap64 (a2)) 64)).bind fun bt239 => ((ballot_Number.f (IntKind.u64.wrap (a1)) (Int.tmod (wrap64 (a3)) 64)).bind fun bt241 => ((ballot_Owner.f bt239.1).bind fun bt243 => (if bt239.2 = 0 then (if bt241.2 = 0 then (if bt243.1 = (IntKind.u64.wrap (a0)) then (if bt243.2.1 = (Int.tmod (wrap64 (a2)) 64) then (if bt243.2.2 = true then ((conventiclelaw16_shown.f).bind fun t246 => (if t246 = true then (if a0 = a1 then (if ((bt239.1 == bt241.1) == ((Int.tmod a2 64) == (Int.tmod a3 64))) = true then (if a0 ≤ a1 then (some true) else (some (decide (bt239.1 > bt241.1)))) else (none)) else (if ((bt239.1 == bt241.1) == false) = true then (if a0 ≤ a1 then (some true) else (some (decide (bt239.1 > bt241.1)))) else (none))) else (none))) else (none)) else (none)) else (none)) else (none)) else (none))))) = some r := h
  clear h
  replace H := Option.bind_eq_some_iff.mp H
  obtain ⟨⟨t239, t240⟩, A50, H⟩ := H
  replace H : ((ballot_Number.f (IntKind.u64.wrap (a1)) (Int.tmod (wrap64 (a3)) 64)).bind fun bt241 => ((ballot_Owner.f t239).bind fun bt243 => (if t240 = 0 then (if bt241.2 = 0 then (if bt243.1 = (IntKind.u64.wrap (a0)) then (if bt243.2.1 = (Int.tmod (wrap64 (a2)) 64) then (if bt243.2.2 = true then ((conventiclelaw16_shown.f).bind fun t246 => (if t246 = true then (if a0 = a1 then (if ((t239 == bt241.1) == ((Int.tmod a2 64) == (Int.tmod a3 64))) = true then (if a0 ≤ a1 then (some true) else (some (decide (t239 > bt241.1)))) else (none)) else (if ((t239 == bt241.1) == false) = true then (if a0 ≤ a1 then (some true) else (some (decide (t239 > bt241.1)))) else (none))) else (none))) else (none)) else (none)) else (none)) else (none)) else (none)))) = some r := H
  have A5 := Aside0.mk A50
  clear A50
  replace H := Option.bind_eq_some_iff.mp H
  obtain ⟨⟨t241, t242⟩, A60, H⟩ := H
  replace H : ((ballot_Owner.f t239).bind fun bt243 => (if t240 = 0 then (if t242 = 0 then (if bt243.1 = (IntKind.u64.wrap (a0)) then (if bt243.2.1 = (Int.tmod (wrap64 (a2)) 64) then (if bt243.2.2 = true then ((conventiclelaw16_shown.f).bind fun t246 => (if t246 = true then (if a0 = a1 then (if ((t239 == t241) == ((Int.tmod a2 64) == (Int.tmod a3 64))) = true then (if a0 ≤ a1 then (some true) else (some (decide (t239 > t241)))) else (none)) else (if ((t239 == t241) == false) = true then (if a0 ≤ a1 then (some true) else (some (decide (t239 > t241)))) else (none))) else (none))) else (none)) else (none)) else (none)) else (none)) else (none))) = some r := H
  have A6 := Aside0.mk A60
  clear A60
  replace H := Option.bind_eq_some_iff.mp H
  obtain ⟨⟨t243, t244, t245⟩, A70, H⟩ := H
  replace H : (if t240 = 0 then (if t242 = 0 then (if t243 = (IntKind.u64.wrap (a0)) then (if t244 = (Int.tmod (wrap64 (a2)) 64) then (if t245 = true then ((conventiclelaw16_shown.f).bind fun t246 => (if t246 = true then (if a0 = a1 then (if ((t239 == t241) == ((Int.tmod a2 64) == (Int.tmod a3 64))) = true then (if a0 ≤ a1 then (some true) else (some (decide (t239 > t241)))) else (none)) else (if ((t239 == t241) == false) = true then (if a0 ≤ a1 then (some true) else (some (decide (t239 > t241)))) else (none))) else (none))) else (none)) else (none)) else (none)) else (none)) else (none)) = some r := H
  have A7 := Aside0.mk A70
  clear A70
  by_cases c8 : t240 = 0
  · rw [if_pos c8] at H
    have c8b0 : (t240 == 0) = true := beq_iff_eq.mpr c8
    have c8b1 : (t240 != 0) = false := bne_eq_false_iff_eq.mpr c8
    clear c8
    by_cases c9 : t242 = 0
    · rw [if_pos c9] at H
      have c9b0 : (t242 == 0) = true := beq_iff_eq.mpr c9
      have c9b1 : (t242 != 0) = false := bne_eq_false_iff_eq.mpr c9
      clear c9
      by_cases c10 : t243 = (IntKind.u64.wrap (a0))
      · rw [if_pos c10] at H
        have c10b0 : (t243 == (IntKind.u64.wrap (a0))) = true := beq_iff_eq.mpr c10
        have c10b1 : (t243 != (IntKind.u64.wrap (a0))) = false := bne_eq_false_iff_eq.mpr c10
        clear c10
        by_cases c11 : t244 = (Int.tmod (wrap64 (a2)) 64)
        · rw [if_pos c11] at H
          have c11b0 : (t244 == (Int.tmod (wrap64 (a2)) 64)) = true := beq_iff_eq.mpr c11
          have c11b1 : (t244 != (Int.tmod (wrap64 (a2)) 64)) = false := bne_eq_false_iff_eq.mpr c11
          clear c11
          by_cases c12 : t245 = true
          · subst c12
            have H1 : ((conventiclelaw16_shown.f).bind fun t246 => (if t246 = true then (if a0 = a1 then (if ((t239 == t241) == ((Int.tmod a2 64) == (Int.tmod a3 64))) = true then (if a0 ≤ a1 then (some true) else (some (decide (t239 > t241)))) else (none)) else (if ((t239 == t241) == false) = true then (if a0 ≤ a1 then (some true) else (some (decide (t239 > t241)))) else (none))) else (none))) = some r := by rw [if_pos rfl] at H; exact H
            clear H
            have H := H1
            clear H1
            replace H := Option.bind_eq_some_iff.mp H
            obtain ⟨t246, A130, H⟩ := H
            replace H : (if t246 = true then (if a0 = a1 then (if ((t239 == t241) == ((Int.tmod a2 64) == (Int.tmod a3 64))) = true then (if a0 ≤ a1 then (some true) else (some (decide (t239 > t241)))) else (none)) else (if ((t239 == t241) == false) = true then (if a0 ≤ a1 then (some true) else (some (decide (t239 > t241)))) else (none))) else (none)) = some r := H
            have A13 := Aside0.mk A130
            clear A130
            by_cases c14 : t246 = true
            · subst c14
              have H1 : (if a0 = a1 then (if ((t239 == t241) == ((Int.tmod a2 64) == (Int.tmod a3 64))) = true then (if a0 ≤ a1 then (some true) else (some (decide (t239 > t241)))) else (none)) else (if ((t239 == t241) == false) = true then (if a0 ≤ a1 then (some true) else (some (decide (t239 > t241)))) else (none))) = some r := by rw [if_pos rfl] at H; exact H
              clear H
              have H := H1
              clear H1
              by_cases c15 : a0 = a1
              · rw [if_pos c15] at H
                have c15b0 : (a0 == a1) = true := beq_iff_eq.mpr c15
                have c15b1 : (a0 != a1) = false := bne_eq_false_iff_eq.mpr c15
                clear c15
                by_cases c16 : ((t239 == t241) == ((Int.tmod a2 64) == (Int.tmod a3 64))) = true
                · rw [if_pos c16] at H
                  have c16b0 : ((t239 == t241) == ((Int.tmod a2 64) == (Int.tmod a3 64))) = true := c16
                  (try (have c16b1 : decide ((t239 == t241) = ((Int.tmod a2 64) == (Int.tmod a3 64))) = true := by simpa using c16))
                  (try (have c16b2 : ((t239 == t241) == ((Int.tmod a2 64) == (Int.tmod a3 64))) = true := by simpa using c16))
                  clear c16
                  by_cases c17 : a0 ≤ a1
                  · rw [if_pos c17] at H
                    have c17b0 : decide (a0 ≤ a1) = true := decide_eq_true c17
                    clear c17
                    obtain rfl := Option.some.inj H
                    go_enter Try.func5, Try.ntmps5
                    go_wp2_with (first | ((with_reducible refine gate_callee (f := 14) rfl ?_); refine goesL_ (some 22) rfl rfl Try.func14 (by kernel_rfl) rfl #[.int .u64 (IntKind.u64.wrap (a0)), .int .i64 (Int.tmod (wrap64 (a2)) 64)] rfl (by (try simp only [List.map_toArray, List.map_cons, List.map_nil]); first | done | rfl | (simp only [List.length_drop, List.length_take]; rfl)) ?_; (with_reducible refine (ballot_Number.calls (IntKind.u64.wrap (a0)) (Int.tmod (wrap64 (a2)) 64) t239 t240 _ A5.out).mono ?_); rintro e w' ⟨rfl, ⟨nd, rfl⟩⟩; refine ⟨_, rfl, ?_⟩) | ((with_reducible refine gate_callee (f := 14) rfl ?_); refine goesL_ (some 31) rfl rfl Try.func14 (by kernel_rfl) rfl #[.int .u64 (IntKind.u64.wrap (a1)), .int .i64 (Int.tmod (wrap64 (a3)) 64)] rfl (by (try simp only [List.map_toArray, List.map_cons, List.map_nil]); first | done | rfl | (simp only [List.length_drop, List.length_take]; rfl)) ?_; (with_reducible refine (ballot_Number.calls (IntKind.u64.wrap (a1)) (Int.tmod (wrap64 (a3)) 64) t241 t242 _ A6.out).mono ?_); rintro e w' ⟨rfl, ⟨nd, rfl⟩⟩; refine ⟨_, rfl, ?_⟩) | ((with_reducible refine gate_callee (f := 15) rfl ?_); refine goesL_ (some 36) rfl rfl Try.func15 (by kernel_rfl) rfl #[.int .u64 t239] rfl (by (try simp only [List.map_toArray, List.map_cons, List.map_nil]); first | done | rfl | (simp only [List.length_drop, List.length_take]; rfl)) ?_; (with_reducible refine (ballot_Owner.calls t239 t243 t244 true _ A7.out).mono ?_); rintro e w' ⟨rfl, ⟨nd, rfl⟩⟩; refine ⟨_, rfl, ?_⟩) | (go_at_call 8; (with_reducible refine (conventiclelaw16_shown.calls  true _ A13.out).mono ?_); rintro e w18 ⟨rfl, hb⟩; have n0_ := Aside0.mk (below_step (by repeat (first | (with_reducible first | exact HB.out | apply below_alloc | apply pw_below_drewN | apply below_drew1) | exact HB.out)) hb); clear HB; have HB := n0_; clear n0_; (try clear hb); (try clear hb2); (try clear hk); (try clear hi)))
                    go_ret
                    exact ⟨by first | rfl | (simp [errW_none, errW_some] <;> rfl) | (simp [*, errW_none, errW_some] <;> rfl), by repeat (first | (with_reducible first | exact HB.out | apply below_alloc | apply pw_below_drewN | apply below_drew1) | exact HB.out)⟩
                  · rw [if_neg c17] at H
                    have c17b0 : decide (a0 ≤ a1) = false := decide_eq_false c17
                    clear c17
                    obtain rfl := Option.some.inj H
                    go_enter Try.func5, Try.ntmps5
                    go_wp2_with (first | ((with_reducible refine gate_callee (f := 14) rfl ?_); refine goesL_ (some 22) rfl rfl Try.func14 (by kernel_rfl) rfl #[.int .u64 (IntKind.u64.wrap (a0)), .int .i64 (Int.tmod (wrap64 (a2)) 64)] rfl (by (try simp only [List.map_toArray, List.map_cons, List.map_nil]); first | done | rfl | (simp only [List.length_drop, List.length_take]; rfl)) ?_; (with_reducible refine (ballot_Number.calls (IntKind.u64.wrap (a0)) (Int.tmod (wrap64 (a2)) 64) t239 t240 _ A5.out).mono ?_); rintro e w' ⟨rfl, ⟨nd, rfl⟩⟩; refine ⟨_, rfl, ?_⟩) | ((with_reducible refine gate_callee (f := 14) rfl ?_); refine goesL_ (some 31) rfl rfl Try.func14 (by kernel_rfl) rfl #[.int .u64 (IntKind.u64.wrap (a1)), .int .i64 (Int.tmod (wrap64 (a3)) 64)] rfl (by (try simp only [List.map_toArray, List.map_cons, List.map_nil]); first | done | rfl | (simp only [List.length_drop, List.length_take]; rfl)) ?_; (with_reducible refine (ballot_Number.calls (IntKind.u64.wrap (a1)) (Int.tmod (wrap64 (a3)) 64) t241 t242 _ A6.out).mono ?_); rintro e w' ⟨rfl, ⟨nd, rfl⟩⟩; refine ⟨_, rfl, ?_⟩) | ((with_reducible refine gate_callee (f := 15) rfl ?_); refine goesL_ (some 36) rfl rfl Try.func15 (by kernel_rfl) rfl #[.int .u64 t239] rfl (by (try simp only [List.map_toArray, List.map_cons, List.map_nil]); first | done | rfl | (simp only [List.length_drop, List.length_take]; rfl)) ?_; (with_reducible refine (ballot_Owner.calls t239 t243 t244 true _ A7.out).mono ?_); rintro e w' ⟨rfl, ⟨nd, rfl⟩⟩; refine ⟨_, rfl, ?_⟩) | (go_at_call 8; (with_reducible refine (conventiclelaw16_shown.calls  true _ A13.out).mono ?_); rintro e w19 ⟨rfl, hb⟩; have n0_ := Aside0.mk (below_step (by repeat (first | (with_reducible first | exact HB.out | apply below_alloc | apply pw_below_drewN | apply below_drew1) | exact HB.out)) hb); clear HB; have HB := n0_; clear n0_; (try clear hb); (try clear hb2); (try clear hk); (try clear hi)))
                    go_ret
                    exact ⟨by first | rfl | (simp [errW_none, errW_some] <;> rfl) | (simp [*, errW_none, errW_some] <;> rfl), by repeat (first | (with_reducible first | exact HB.out | apply below_alloc | apply pw_below_drewN | apply below_drew1) | exact HB.out)⟩
                · rw [if_neg c16] at H
                  exact absurd H (by simp)
              · rw [if_neg c15] at H
                have c15b0 : (a0 == a1) = false := beq_eq_false_iff_ne.mpr c15
                have c15b1 : (a0 != a1) = true := bne_iff_ne.mpr c15
                by_cases c20 : ((t239 == t241) == false) = true
                · rw [if_pos c20] at H
                  have c20b0 : ((t239 == t241) == false) = true := c20
                  (try (have c20b1 : decide ((t239 == t241) = false) = true := by simpa using c20))
                  (try (have c20b2 : ((t239 == t241) == false) = true := by simpa using c20))
                  clear c20
                  by_cases c21 : a0 ≤ a1
                  · rw [if_pos c21] at H
                    have c21b0 : decide (a0 ≤ a1) = true := decide_eq_true c21
                    clear c21
                    obtain rfl := Option.some.inj H
                    go_enter Try.func5, Try.ntmps5
                    go_wp2_with (first | ((with_reducible refine gate_callee (f := 14) rfl ?_); refine goesL_ (some 22) rfl rfl Try.func14 (by kernel_rfl) rfl #[.int .u64 (IntKind.u64.wrap (a0)), .int .i64 (Int.tmod (wrap64 (a2)) 64)] rfl (by (try simp only [List.map_toArray, List.map_cons, List.map_nil]); first | done | rfl | (simp only [List.length_drop, List.length_take]; rfl)) ?_; (with_reducible refine (ballot_Number.calls (IntKind.u64.wrap (a0)) (Int.tmod (wrap64 (a2)) 64) t239 t240 _ A5.out).mono ?_); rintro e w' ⟨rfl, ⟨nd, rfl⟩⟩; refine ⟨_, rfl, ?_⟩) | ((with_reducible refine gate_callee (f := 14) rfl ?_); refine goesL_ (some 31) rfl rfl Try.func14 (by kernel_rfl) rfl #[.int .u64 (IntKind.u64.wrap (a1)), .int .i64 (Int.tmod (wrap64 (a3)) 64)] rfl (by (try simp only [List.map_toArray, List.map_cons, List.map_nil]); first | done | rfl | (simp only [List.length_drop, List.length_take]; rfl)) ?_; (with_reducible refine (ballot_Number.calls (IntKind.u64.wrap (a1)) (Int.tmod (wrap64 (a3)) 64) t241 t242 _ A6.out).mono ?_); rintro e w' ⟨rfl, ⟨nd, rfl⟩⟩; refine ⟨_, rfl, ?_⟩) | ((with_reducible refine gate_callee (f := 15) rfl ?_); refine goesL_ (some 36) rfl rfl Try.func15 (by kernel_rfl) rfl #[.int .u64 t239] rfl (by (try simp only [List.map_toArray, List.map_cons, List.map_nil]); first | done | rfl | (simp only [List.length_drop, List.length_take]; rfl)) ?_; (with_reducible refine (ballot_Owner.calls t239 t243 t244 true _ A7.out).mono ?_); rintro e w' ⟨rfl, ⟨nd, rfl⟩⟩; refine ⟨_, rfl, ?_⟩) | (go_at_call 8; (with_reducible refine (conventiclelaw16_shown.calls  true _ A13.out).mono ?_); rintro e w22 ⟨rfl, hb⟩; have n0_ := Aside0.mk (below_step (by repeat (first | (with_reducible first | exact HB.out | apply below_alloc | apply pw_below_drewN | apply below_drew1) | exact HB.out)) hb); clear HB; have HB := n0_; clear n0_; (try clear hb); (try clear hb2); (try clear hk); (try clear hi)))
                    go_ret
                    exact ⟨by first | rfl | (simp [errW_none, errW_some] <;> rfl) | (simp [*, errW_none, errW_some] <;> rfl), by repeat (first | (with_reducible first | exact HB.out | apply below_alloc | apply pw_below_drewN | apply below_drew1) | exact HB.out)⟩
                  · rw [if_neg c21] at H
                    have c21b0 : decide (a0 ≤ a1) = false := decide_eq_false c21
                    clear c21
                    obtain rfl := Option.some.inj H
                    go_enter Try.func5, Try.ntmps5
                    go_wp2_with (first | ((with_reducible refine gate_callee (f := 14) rfl ?_); refine goesL_ (some 22) rfl rfl Try.func14 (by kernel_rfl) rfl #[.int .u64 (IntKind.u64.wrap (a0)), .int .i64 (Int.tmod (wrap64 (a2)) 64)] rfl (by (try simp only [List.map_toArray, List.map_cons, List.map_nil]); first | done | rfl | (simp only [List.length_drop, List.length_take]; rfl)) ?_; (with_reducible refine (ballot_Number.calls (IntKind.u64.wrap (a0)) (Int.tmod (wrap64 (a2)) 64) t239 t240 _ A5.out).mono ?_); rintro e w' ⟨rfl, ⟨nd, rfl⟩⟩; refine ⟨_, rfl, ?_⟩) | ((with_reducible refine gate_callee (f := 14) rfl ?_); refine goesL_ (some 31) rfl rfl Try.func14 (by kernel_rfl) rfl #[.int .u64 (IntKind.u64.wrap (a1)), .int .i64 (Int.tmod (wrap64 (a3)) 64)] rfl (by (try simp only [List.map_toArray, List.map_cons, List.map_nil]); first | done | rfl | (simp only [List.length_drop, List.length_take]; rfl)) ?_; (with_reducible refine (ballot_Number.calls (IntKind.u64.wrap (a1)) (Int.tmod (wrap64 (a3)) 64) t241 t242 _ A6.out).mono ?_); rintro e w' ⟨rfl, ⟨nd, rfl⟩⟩; refine ⟨_, rfl, ?_⟩) | ((with_reducible refine gate_callee (f := 15) rfl ?_); refine goesL_ (some 36) rfl rfl Try.func15 (by kernel_rfl) rfl #[.int .u64 t239] rfl (by (try simp only [List.map_toArray, List.map_cons, List.map_nil]); first | done | rfl | (simp only [List.length_drop, List.length_take]; rfl)) ?_; (with_reducible refine (ballot_Owner.calls t239 t243 t244 true _ A7.out).mono ?_); rintro e w' ⟨rfl, ⟨nd, rfl⟩⟩; refine ⟨_, rfl, ?_⟩) | (go_at_call 8; (with_reducible refine (conventiclelaw16_shown.calls  true _ A13.out).mono ?_); rintro e w23 ⟨rfl, hb⟩; have n0_ := Aside0.mk (below_step (by repeat (first | (with_reducible first | exact HB.out | apply below_alloc | apply pw_below_drewN | apply below_drew1) | exact HB.out)) hb); clear HB; have HB := n0_; clear n0_; (try clear hb); (try clear hb2); (try clear hk); (try clear hi)))
                    go_ret
                    exact ⟨by first | rfl | (simp [errW_none, errW_some] <;> rfl) | (simp [*, errW_none, errW_some] <;> rfl), by repeat (first | (with_reducible first | exact HB.out | apply below_alloc | apply pw_below_drewN | apply below_drew1) | exact HB.out)⟩
                · rw [if_neg c20] at H
                  exact absurd H (by simp)
            · replace c14 := Bool.eq_false_iff.mpr c14
              subst c14
              have H1 : (none) = some r := by rw [if_neg (show ¬ (false = true) by decide)] at H; exact H
              clear H
              have H := H1
              clear H1
              exact absurd H (by simp)
          · replace c12 := Bool.eq_false_iff.mpr c12
            subst c12
            have H1 : (none) = some r := by rw [if_neg (show ¬ (false = true) by decide)] at H; exact H
            clear H
            have H := H1
            clear H1
            exact absurd H (by simp)
        · rw [if_neg c11] at H
          exact absurd H (by simp)
      · rw [if_neg c10] at H
        exact absurd H (by simp)
    · rw [if_neg c9] at H
      exact absurd H (by simp)
  · rw [if_neg c8] at H
    exact absurd H (by simp)

/-- THE ONE PURE STATEMENT of conventiclelaw16_BallotOwns: yours. -/
def conventiclelaw16_BallotOwns.Pure : Prop := ∀ (a0 : Int) (a1 : Int) (a2 : Int) (a3 : Int), (Lit.int .u32 a0).wf = true → (Lit.int .u32 a1).wf = true → (Lit.int .u8 a2).wf = true → (Lit.int .u8 a3).wf = true → conventiclelaw16_BallotOwns.f a0 a1 a2 a3 = some true
theorem conventiclelaw16_BallotOwns.walk (P : conventiclelaw16_BallotOwns.Pure) (a0 : Int) (a1 : Int) (a2 : Int) (a3 : Int) (w : World) (w0 : (Lit.int .u32 a0).wf = true) (w1 : (Lit.int .u32 a1).wf = true) (w2 : (Lit.int .u8 a2).wf = true) (w3 : (Lit.int .u8 a3).wf = true) :
    Calls Try.prog 5 #[.int .u32 a0, .int .u32 a1, .int .u8 a2, .int .u8 a3] w fun e w' => e = .returned (.bool true) ∧ Below w.heap.size w w' := by
  have h := P a0 a1 a2 a3 w0 w1 w2 w3
  refine (conventiclelaw16_BallotOwns.calls a0 a1 a2 a3 true w h).mono ?_
  rintro e w' ⟨rfl, hd⟩
  exact ⟨rfl, hd⟩

end Go.Proofs.Ytnlppniejeemlaa.B
