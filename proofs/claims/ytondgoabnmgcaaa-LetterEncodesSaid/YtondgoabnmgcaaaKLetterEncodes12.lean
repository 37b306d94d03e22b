/- Texts of this claim, one behind the other (joined by pack.py): May May2 MayW. -/
import Derived.Test.YtondgoabnmgcaaaKLetterEncodes11
import Derived.Test.YtondgoabnmgcaaaKLetterEncodes7
import Derived.Handy
section
/- By hand: letter.May. -/
namespace Go.Proofs.Ytondgoabnmgcaaa.B
open Go.RowKit Go.Proofs.YtondgoabnmgcaaaW.PrintWords Go.Proofs.YtondgoabnmgcaaaW.PrintLast Go.Proofs.YtondgoabnmgcaaaW.PrintMore
set_option linter.unusedSimpArgs false
set_option linter.unusedVariables false
def mayU (u : S70) : Bool := decide (0 ≤ u.f0) && (decide (u.f0 < 64) && (decide (0 ≤ u.f2) && decide (u.f2 ≤ 3)))
theorem told_at (u : S70) (w : World) : Calls Try.prog 84 #[.agg #[.int .i64 u.f0, .int .u64 u.f1, .int .i64 u.f2]] w fun e w' => e = .returned (.bool (mayU u)) ∧ Below w.heap.size w w' := by
  obtain ⟨a, b, c⟩ := u
  go_enter Try.func84, Try.ntmps84
  go_wp2
  all_goals
    go_ret
    refine ⟨?_, by go_grown⟩
    first | (simp_all [mayU]; done) | (simp_all [mayU]; omega)
theorem rankmay_at (u : S70) (w : World) : Calls Try.prog 57 #[.agg #[.int .i64 u.f0, .int .u64 u.f1, .int .i64 u.f2]] w fun e w' => e = .returned (.bool (mayU u)) ∧ Below w.heap.size w w' := by
  go_enter Try.func57, Try.ntmps57
  go_wp2_with (go_at_call 84; refine (told_at u _).mono ?_; rintro e w' ⟨rfl, hb⟩)
  go_ret
  refine ⟨rfl, ?_⟩
  exact below_step (by go_grown) hb
theorem odd_at (u : S70) (w : World) : Calls Try.prog 56 #[.agg #[.int .i64 u.f0, .int .u64 u.f1, .int .i64 u.f2]] w fun e w' => e = .returned (.bool (!mayU u)) ∧ Below w.heap.size w w' := by
  go_enter Try.func56, Try.ntmps56
  go_wp2_with (go_at_call 57; refine (rankmay_at u _).mono ?_; rintro e w' ⟨rfl, hb⟩)
  go_ret
  refine ⟨rfl, ?_⟩
  exact below_step (by go_grown) hb
def nodeB (n : Int) : Bool := decide (0 ≤ n) && decide (n < 64)
theorem node_at (n : Int) (w : World) : Calls Try.prog 59 #[.int .i64 n] w fun e w' => e = .returned (.bool (nodeB n)) ∧ w = w' := by
  go_enter Try.func59, Try.ntmps59
  go_wp2
  all_goals
    go_ret
    refine ⟨?_, rfl⟩
    first | (simp_all [nodeB]; done) | (simp_all [nodeB]; omega)
def mayP (p : S53) : Bool := nodeB p.f1.f0 && decide ((p.f1.f2.size : Int) ≤ 64)
theorem wide_at (p : S53) (w : World) : Calls Try.prog 58 #[.agg #[.int .u64 p.f0, .int .i64 p.f1.f0, .int .u64 p.f1.f1, .string p.f1.f2]] w fun e w' => e = .returned (.bool (!mayP p)) ∧ Below w.heap.size w w' := by
  obtain ⟨a, b, c, s⟩ := p
  have HM : mayP ⟨a, b, c, s⟩ = (nodeB b && decide ((s.size : Int) ≤ 64)) := rfl
  rw [HM]
  clear HM
  dsimp only
  cases hb : nodeB b
  · go_enter Try.func58, Try.ntmps58
    go_wp2_with (go_at_call 59; refine (node_at b _).mono ?_; rintro e w' ⟨rfl, rfl⟩; rw [hb])
    all_goals
      go_ret
      refine ⟨?_, by go_grown⟩
      simp_all
  · go_enter Try.func58, Try.ntmps58
    go_wp2_with (go_at_call 59; refine (node_at b _).mono ?_; rintro e w' ⟨rfl, rfl⟩; rw [hb])
    all_goals
      go_ret
      refine ⟨?_, by go_grown⟩
      first | (simp_all; done) | (by_cases h6 : (s.size : Int) ≤ 64 <;> simp_all <;> omega)
end Go.Proofs.Ytondgoabnmgcaaa.B
end
section
/- By hand: slices.ContainsFunc over updates, and over pieces. -/
namespace Go.Proofs.Ytondgoabnmgcaaa.B
open Go.RowKit Go.Proofs.YtondgoabnmgcaaaW.PrintWords Go.Proofs.YtondgoabnmgcaaaW.PrintLast Go.Proofs.YtondgoabnmgcaaaW.PrintMore
set_option linter.unusedSimpArgs false
set_option linter.unusedVariables false
theorem all_take {α : Type} (f : α → Bool) (l : List α) (j : Nat) (x : α) (h : l[j]? = some x) : (l.take (j + 1)).all f = ((l.take j).all f && f x) := by
  have hj := (List.getElem?_eq_some_iff.1 h)
  obtain ⟨hj, hx⟩ := hj
  rw [List.take_succ_eq_append_getElem hj, List.all_append, hx]
  simp
theorem not_all {α : Type} (f : α → Bool) (l : List α) (j : Nat) (x : α) (h : l[j]? = some x) (hx : f x = false) : l.all f = false := by
  rw [List.all_eq_false]
  exact ⟨x, List.mem_of_getElem? h, by simp [hx]⟩
theorem upd_one (u : S70) (w : World) : Calls Try.prog 56 #[.agg #[.int .i64 u.f0, .int .u64 u.f1, .int .i64 u.f2]] w fun e w' => e = .returned (.bool (!mayU u)) ∧ Below w.heap.size w w' := odd_at u w
theorem pc_one (p : S53) (w : World) : Calls Try.prog 58 #[.agg #[.int .u64 p.f0, .int .i64 p.f1.f0, .int .u64 p.f1.f1, .string p.f1.f2]] w fun e w' => e = .returned (.bool (!mayP p)) ∧ Below w.heap.size w w' := wide_at p w

set_option maxHeartbeats 1000000 in
theorem upd_index (A : Option Addr) (c : Nat) (l : List S70) (w : World) (hr : Kd.C k70 w A l.length l) :
    Calls Try.prog 85 #[.slice A l.length c, .func (.func 56) #[] #[]] w fun e w' => ∃ i : Int, e = .returned (.int .i64 i) ∧ decide (0 ≤ i) = (!l.all mayU) ∧ Below w.heap.size w w' := by
  have HR := Aside0.mk hr
  have hlen : (l.length : Int) ≤ 9223372036854775807 := by have := hr.2.1; omega
  clear hr
  go_enter Try.func85, Try.ntmps85
  go_wp2
  go_loopw [8] (fun i wr => ∃ j : Nat, i = .int .i64 j ∧ Aside0 (j ≤ l.length) ∧ Aside0 ((l.take j).all mayU = true) ∧ Aside0 (Below w.heap.size w wr))
    (fun i _ => l.length - (intOf i).toNat)
  case atStart => exact ⟨0, rfl, ⟨Nat.zero_le _⟩, ⟨by simp⟩, ⟨Below.refl _ _⟩⟩
  case round =>
    obtain ⟨j, rfl, hj, hall, HB⟩ := hrel
    by_cases hlt : j < l.length
    · have HRr := Aside0.mk (Kd.C_below HR.out HB.out)
      obtain ⟨ad, e, hy0, hy1, hy2⟩ := at_T70 HRr.out (j : Int) (by omega) (by have := HR.out.2.1; omega)
      simp only [Int.toNat_natCast] at hy0 hy1 hy2
      obtain rfl := e
      obtain ⟨p, hp⟩ : ∃ p, p = rd_T70 l (j : Int) := ⟨_, rfl⟩
      have hlp : Aside0 (l[j]? = some p) := ⟨by
        rw [hp]
        unfold rd_T70
        rw [Int.toNat_natCast, List.getD_eq_getElem?_getD, List.getElem?_eq_getElem hlt]; rfl⟩
      rw [← hp] at hy0 hy1 hy2
      clear hp
      cases hm : mayU p
      · have HM := Aside0.mk hm
        clear hm
        go_wp2_with (go_at_call 56; refine (upd_one p _).mono ?_; rintro e w' ⟨rfl, hb⟩; rw [HM.out]; have HB2 := Aside0.mk (below_step HB.out hb); clear hb)
        go_ret
        exact ⟨_, rfl, by rw [not_all mayU l j p hlp.out HM.out]; simp, HB2.out⟩
      · have HM := Aside0.mk hm
        clear hm
        go_wp2_with (go_at_call 56; refine (upd_one p _).mono ?_; rintro e w' ⟨rfl, hb⟩; rw [HM.out]; have HB2 := Aside0.mk (below_step HB.out hb); clear hb)
        go_roundw
        case rel => exact ⟨j + 1, by go_num, ⟨hlt⟩, ⟨by rw [all_take mayU l j p hlp.out, hall.out, HM.out]; rfl⟩, HB2⟩
        case measure => simp [intOf]; omega
    · obtain rfl : j = l.length := by have := hj.out; omega
      go_wp2
      go_ret
      refine ⟨_, rfl, ?_, HB.out⟩
      have := hall.out
      rw [List.take_length] at this
      rw [this]; rfl
theorem upd_contains (A : Option Addr) (c : Nat) (l : List S70) (w : World) (hr : Kd.C k70 w A l.length l) :
    Calls Try.prog 60 #[.slice A l.length c, .func (.func 56) #[] #[]] w fun e w' => e = .returned (.bool (!l.all mayU)) ∧ Below w.heap.size w w' := by
  have HR := Aside0.mk hr
  clear hr
  go_enter Try.func60, Try.ntmps60
  go_wp2_with (go_at_call 85; refine (upd_index A c l _ HR.out).mono ?_; rintro e w' ⟨i, rfl, hi, hb⟩; have HI := Aside0.mk hi; have HB := Aside0.mk hb; clear hi hb)
  go_ret
  exact ⟨by rw [← HI.out]; simp, HB.out⟩

set_option maxHeartbeats 1000000 in
theorem pc_index (A : Option Addr) (c : Nat) (l : List S53) (w : World) (hr : Kd.C k53 w A l.length l) :
    Calls Try.prog 86 #[.slice A l.length c, .func (.func 58) #[] #[]] w fun e w' => ∃ i : Int, e = .returned (.int .i64 i) ∧ decide (0 ≤ i) = (!l.all mayP) ∧ Below w.heap.size w w' := by
  have HR := Aside0.mk hr
  have hlen : (l.length : Int) ≤ 9223372036854775807 := by have := hr.2.1; omega
  clear hr
  go_enter Try.func86, Try.ntmps86
  go_wp2
  go_loopw [8] (fun i wr => ∃ j : Nat, i = .int .i64 j ∧ Aside0 (j ≤ l.length) ∧ Aside0 ((l.take j).all mayP = true) ∧ Aside0 (Below w.heap.size w wr))
    (fun i _ => l.length - (intOf i).toNat)
  case atStart => exact ⟨0, rfl, ⟨Nat.zero_le _⟩, ⟨by simp⟩, ⟨Below.refl _ _⟩⟩
  case round =>
    obtain ⟨j, rfl, hj, hall, HB⟩ := hrel
    by_cases hlt : j < l.length
    · have HRr := Aside0.mk (Kd.C_below HR.out HB.out)
      obtain ⟨ad, e, hy0, hy1, hy2, hy3⟩ := at_T53 HRr.out (j : Int) (by omega) (by have := HR.out.2.1; omega)
      simp only [Int.toNat_natCast] at hy0 hy1 hy2 hy3
      obtain rfl := e
      obtain ⟨p, hp⟩ : ∃ p, p = rd_T53 l (j : Int) := ⟨_, rfl⟩
      have hlp : Aside0 (l[j]? = some p) := ⟨by
        rw [hp]
        unfold rd_T53
        rw [Int.toNat_natCast, List.getD_eq_getElem?_getD, List.getElem?_eq_getElem hlt]; rfl⟩
      rw [← hp] at hy0 hy1 hy2 hy3
      clear hp
      cases hm : mayP p
      · have HM := Aside0.mk hm
        clear hm
        go_wp2_with (go_at_call 58; refine (pc_one p _).mono ?_; rintro e w' ⟨rfl, hb⟩; rw [HM.out]; have HB2 := Aside0.mk (below_step HB.out hb); clear hb)
        go_ret
        exact ⟨_, rfl, by rw [not_all mayP l j p hlp.out HM.out]; simp, HB2.out⟩
      · have HM := Aside0.mk hm
        clear hm
        go_wp2_with (go_at_call 58; refine (pc_one p _).mono ?_; rintro e w' ⟨rfl, hb⟩; rw [HM.out]; have HB2 := Aside0.mk (below_step HB.out hb); clear hb)
        go_roundw
        case rel => exact ⟨j + 1, by go_num, ⟨hlt⟩, ⟨by rw [all_take mayP l j p hlp.out, hall.out, HM.out]; rfl⟩, HB2⟩
        case measure => simp [intOf]; omega
    · obtain rfl : j = l.length := by have := hj.out; omega
      go_wp2
      go_ret
      refine ⟨_, rfl, ?_, HB.out⟩
      have := hall.out
      rw [List.take_length] at this
      rw [this]; rfl
theorem pc_contains (A : Option Addr) (c : Nat) (l : List S53) (w : World) (hr : Kd.C k53 w A l.length l) :
    Calls Try.prog 61 #[.slice A l.length c, .func (.func 58) #[] #[]] w fun e w' => e = .returned (.bool (!l.all mayP)) ∧ Below w.heap.size w w' := by
  have HR := Aside0.mk hr
  clear hr
  go_enter Try.func61, Try.ntmps61
  go_wp2_with (go_at_call 86; refine (pc_index A c l _ HR.out).mono ?_; rintro e w' ⟨i, rfl, hi, hb⟩; have HI := Aside0.mk hi; have HB := Aside0.mk hb; clear hi hb)
  go_ret
  exact ⟨by rw [← HI.out]; simp, HB.out⟩
end Go.Proofs.Ytondgoabnmgcaaa.B
end
section
/- By hand: letter.May. -/
namespace Go.Proofs.Ytondgoabnmgcaaa.B
open Go.RowKit Go.Proofs.YtondgoabnmgcaaaW.PrintWords Go.Proofs.YtondgoabnmgcaaaW.PrintLast Go.Proofs.YtondgoabnmgcaaaW.PrintMore
set_option linter.unusedSimpArgs false
set_option linter.unusedVariables false
/-- is a real none below 0? -/
def geF (x : Nat) : Bool := FloatKind.f64.format.order x 0 == some Ordering.gt || FloatKind.f64.format.order x 0 == some Ordering.eq
def negF (x : Nat) : Bool := decide (wrap64 (x : Int) < 0)
def mayL (a0 a1 a2 a4 : Int) (l5 : List S70) (l13 : List S53) (l14 : List S77) (a15 : Nat) : Bool :=
  decide (1 ≤ a0) && (decide (a0 ≤ 14) && (nodeB a1 && (nodeB a2 && (nodeB a4 && (decide ((l5.length : Int) ≤ 8) && (decide ((l13.length : Int) ≤ 6) && (decide ((l14.length : Int) ≤ 16) && (l5.all mayU && (l13.all mayP && (sepS l14 && (geF a15 && !negF a15)))))))))))
set_option maxRecDepth 100000 in
set_option maxHeartbeats 4000000 in
theorem may_at (a0 a1 a2 a3 a4 : Int) (A5 : Option Addr) (c5 : Nat) (l5 : List S70) (a6 a7 a8 a9 a10 a11 a12 : Int) (A13 : Option Addr) (c13 : Nat) (l13 : List S53) (A14 : Option Addr) (c14 : Nat) (l14 : List S77) (a15 : Nat) (w : World)
    (hr5 : Kd.C k70 w A5 l5.length l5) (hc5 : l5.length ≤ c5) (hr13 : Kd.C k53 w A13 l13.length l13) (hc13 : l13.length ≤ c13) (hr14 : Kd.C k77 w A14 l14.length l14) (hc14 : l14.length ≤ c14) :
    Calls Try.prog 18 #[.agg #[.int .i64 a0, .int .i64 a1, .int .i64 a2, .int .u64 a3, .int .i64 a4, .slice A5 l5.length c5, .int .u64 a6, .int .u64 a7, .int .u64 a8, .int .u64 a9, .int .u64 a10, .int .u64 a11, .int .u64 a12, .slice A13 l13.length c13, .slice A14 l14.length c14, .float .f64 a15]] w fun e w' => e = .returned (.bool (mayL a0 a1 a2 a4 l5 l13 l14 a15)) ∧ Below w.heap.size w w' := by
  have H5 := Aside0.mk hr5
  have H13 := Aside0.mk hr13
  have H14 := Aside0.mk hr14
  have HC := Aside0.mk hc14
  have HS := Aside0.mk (span_may_is l14 (by have := hr14.2.1; omega))
  clear hr5 hc5 hr13 hc13 hr14 hc14
  obtain ⟨b5, hb5⟩ : ∃ b, l5.all mayU = b := ⟨_, rfl⟩
  obtain ⟨b13, hb13⟩ : ∃ b, l13.all mayP = b := ⟨_, rfl⟩
  obtain ⟨b14, hb14⟩ : ∃ b, sepS l14 = b := ⟨_, rfl⟩
  rw [hb14] at HS
  have E5 := Aside0.mk hb5
  have E13 := Aside0.mk hb13
  have EM : Aside0 (mayL a0 a1 a2 a4 l5 l13 l14 a15 = (decide (1 ≤ a0) && (decide (a0 ≤ 14) && (nodeB a1 && (nodeB a2 && (nodeB a4 && (decide ((l5.length : Int) ≤ 8) && (decide ((l13.length : Int) ≤ 6) && (decide ((l14.length : Int) ≤ 16) && (b5 && (b13 && (b14 && (geF a15 && !negF a15))))))))))))) := ⟨by unfold mayL; rw [hb5, hb13, hb14]⟩
  rw [EM.out]
  have HN : Aside0 (math_Signbit.f a15 = some (negF a15)) := ⟨rfl⟩
  obtain ⟨bn, hbn⟩ : ∃ b, negF a15 = b := ⟨_, rfl⟩
  rw [hbn] at HN ⊢
  unfold geF
  clear hb5 hb13 hb14 EM hbn
  go_enter Try.func18, Try.ntmps18
  go_wp2_with (first
    | ((with_reducible refine gate_dst (N := 1) rfl ?_); refine box_event ?hg (N := 1) ?hd (cs := #[.int .i64 a0, .int .i64 a1, .int .i64 a2, .int .u64 a3, .int .i64 a4, .slice A5 l5.length c5, .int .u64 a6, .int .u64 a7, .int .u64 a8, .int .u64 a9, .int .u64 a10, .int .u64 a11, .int .u64 a12, .slice A13 l13.length c13, .slice A14 l14.length c14, .float .f64 a15]) (t := 32) ?hr ?_; (case hd => rfl); (case hg => rfl); (case hr => first | (go_simp; done) | (go_simp; rfl)); intro g1 hg_ w1 hb_ hB_; have K1 := Aside0.mk hb_; have HB1 := Aside0.mk hB_; have G5 := Aside0.mk (Kd.C_below H5.out hB_); have G13 := Aside0.mk (Kd.C_below H13.out hB_); have G14 := Aside0.mk (Kd.C_below H14.out hB_); clear H5 H13 H14; have x0 := fun j => blk_cell hb_ j; clear hg_ hb_ hB_)
    | (go_at_call 59; refine (node_at _ _).mono ?_; rintro e w' ⟨rfl, rfl⟩)
    | (go_at_call 60; refine (upd_contains A5 c5 l5 _ G5.out).mono ?_; rintro e w2 ⟨rfl, hb⟩; rw [E5.out]; have HB2 := Aside0.mk (below_step HB1.out hb); have K2 := Aside0.mk (blk_below K1.out hb); have F13 := Aside0.mk (Kd.C_below G13.out hb); have F14 := Aside0.mk (Kd.C_below G14.out hb); have x2 := fun j => blk_cell K2.out j; clear hb x0 K1 G5 G13 G14)
    | (go_at_call 61; refine (pc_contains A13 c13 l13 _ F13.out).mono ?_; rintro e w3 ⟨rfl, hb⟩; rw [E13.out]; have HB3 := Aside0.mk (below_step HB2.out hb); have K3 := Aside0.mk (blk_below K2.out hb); have D14 := Aside0.mk (Kd.C_below F14.out hb); have x3 := fun j => blk_cell K3.out j; clear hb x2 K2 F13 F14)
    | (go_at_call 62; refine (span_May.calls _ A14 c14 l14 b14 _ D14.out HC.out HS.out).mono ?_; rintro e w4 ⟨rfl, hb⟩; have HB4 := Aside0.mk (below_step HB3.out hb); have K4 := Aside0.mk (blk_below K3.out hb); have x4 := fun j => blk_cell K4.out j; clear hb x3 K3 D14)
    | (go_at_call 55; refine (math_Signbit.calls a15 bn _ HN.out).mono ?_; rintro e w5 ⟨rfl, hb⟩; have HB5 := Aside0.mk (below_step HB4.out (Drawn0.below hb)); clear hb x4 K4)
    )
  all_goals
    go_ret
    refine ⟨?_, by first | exact HB5.out | exact HB4.out | exact HB3.out | exact HB2.out | exact HB1.out⟩
    first | (simp_all; done) | (simp_all; omega)
def letter_May.f (a0 a1 a2 a3 a4 : Int) (l5 : List S70) (a6 a7 a8 a9 a10 a11 a12 : Int) (l13 : List S53) (l14 : List S77) (a15 : Nat) : Option Bool := some (mayL a0 a1 a2 a4 l5 l13 l14 a15)
theorem letter_May.calls (a0 a1 a2 a3 a4 : Int) (A5 : Option Addr) (c5 : Nat) (l5 : List S70) (a6 a7 a8 a9 a10 a11 a12 : Int) (A13 : Option Addr) (c13 : Nat) (l13 : List S53) (A14 : Option Addr) (c14 : Nat) (l14 : List S77) (a15 : Nat) (r : Bool) (w : World)
    (hr5 : Kd.C k70 w A5 l5.length l5) (hc5 : l5.length ≤ c5) (hr13 : Kd.C k53 w A13 l13.length l13) (hc13 : l13.length ≤ c13) (hr14 : Kd.C k77 w A14 l14.length l14) (hc14 : l14.length ≤ c14)
    (h : letter_May.f a0 a1 a2 a3 a4 l5 a6 a7 a8 a9 a10 a11 a12 l13 l14 a15 = some r) :
    Calls Try.prog 18 #[.agg #[.int .i64 a0, .int .i64 a1, .int .i64 a2, .int .u64 a3, .int .i64 a4, .slice A5 l5.length c5, .int .u64 a6, .int .u64 a7, .int .u64 a8, .int .u64 a9, .int .u64 a10, .int .u64 a11, .int .u64 a12, .slice A13 l13.length c13, .slice A14 l14.length c14, .float .f64 a15]] w fun e w' => e = .returned (.bool r) ∧ Below w.heap.size w w' := by
  obtain rfl := Option.some.inj h
  exact may_at a0 a1 a2 a3 a4 A5 c5 l5 a6 a7 a8 a9 a10 a11 a12 A13 c13 l13 A14 c14 l14 a15 w hr5 hc5 hr13 hc13 hr14 hc14
end Go.Proofs.Ytondgoabnmgcaaa.B
end
