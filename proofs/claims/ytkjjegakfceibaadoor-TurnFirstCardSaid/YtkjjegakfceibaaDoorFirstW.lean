/- By hand: the walk of TurnFirst (printed by first.py). -/
import Derived.Test.YtkjjegakfceibaaDoorShown
namespace Go.Proofs.YtkjjegakfceibaaDoor.B
open Go.RowKit Go.Proofs.YtkjjegakfceibaaDoorW.PrintWords Go.Proofs.YtkjjegakfceibaaDoorW.PrintLast Go.Proofs.YtkjjegakfceibaaDoorW.PrintMore
set_option linter.unusedSimpArgs false
set_option linter.unusedVariables false
attribute [local go_sem] max2_int min2_int max_two min_two max_three min_three max_four min_four
def tf16_T : Bool × List (List Nat × List Nat) := (true, [([], []), ([], []), ([0, 1], [0, 1]), ([2], [2]), ([3], [3]), ([4, 3], [3, 4]), ([5, 3], [3, 5]), ([6, 3], [3, 6]), ([7, 3], [3, 7]), ([8, 3, 3], [3, 8]), ([9], [9]), ([10, 9], [9, 10]), ([11, 9], [9, 11]), ([12, 9], [9, 12]), ([9], [9]), ([14, 9], [9, 14]), ([15, 9], [9, 15]), ([13, 16, 9], [9, 13, 16]), ([9, 17, 3], [3, 9, 17]), ([18, 9, 3], [3, 18]), ([19], [19]), ([20, 19], [19, 20]), ([21, 19], [19, 21]), ([22, 19], [19, 22]), ([19], [19]), ([23, 24, 19], [19, 23, 24]), ([19, 25, 3], [3, 19, 25]), ([3, 26], [3, 26]), ([27, 19], [27]), ([28], [28]), ([28], [28]), ([29, 30, 28], [28, 29, 30]), ([31, 28, 28], [28, 31]), ([32], [32]), ([33, 32], [32, 33]), ([34, 32], [32, 34]), ([35, 32], [32, 35]), ([36, 32], [32, 36]), ([37, 32, 32], [32, 37]), ([38], [38]), ([39, 38], [38, 39]), ([40, 38], [38, 40]), ([41, 38], [38, 41]), ([38], [38]), ([42, 43, 38], [38, 42, 43]), ([38, 44, 32], [32, 38, 44]), ([32, 45, 28], [28, 32, 45]), ([28, 46], [28, 46])])
def tf16_B : List Nat := [0, 0, 3, 7, 15, 31, 63, 127, 255, 511, 1023, 2047, 4095, 8191, 1023, 17407, 50175, 131071, 262143, 524287, 1048575, 2097151, 4194303, 8388607, 1048575, 33554431, 67108863, 134217727, 268435455, 536870911, 536870911, 2147483647, 4294967295, 8589934591, 17179869183, 34359738367, 68719476735, 137438953471, 274877906943, 549755813887, 1099511627775, 2199023255551, 4398046511103, 549755813887, 17592186044415, 35184372088831, 70368744177663, 140737488355327]
theorem tf16_tab : rtab .any (opsOf Tryd.f3 16) = tf16_T := by kernel_rfl
theorem tf16_bits : waitsOk tf16_T.2 tf16_B = true := by kernel_rfl
def sF (T : Int) (fr : Bool) (rc : Int) : TS := ⟨T, 0, 0, 0, 0, 9, 7, fr, rc, 0, 0, 0, 0, 0, 0, false, 0, 0, 0, false, 0, 0, false⟩
theorem sF_freeze (T : Int) (fr : Bool) (rc r : Int) : (sF T fr rc).freeze r = sF T true (if fr = true then rc else r) := by
  unfold TS.freeze
  cases fr <;> rfl
theorem k_has7 : band_Has.f 7 1 = some true := by kernel_rfl
theorem hearF_ok (w : World) (g : Nat) (T : Int) (fr : Bool) (rc r b R : Int) (hR : (if fr = true then rc else r) = R) (hT : TB w g (sF T fr rc)) (h0 : b ≠ 0) (h1 : T ≤ b) :
    Calls Tryd.prog 9 #[.pointer (some ⟨g, 0, none⟩), .agg #[.int .i64 4, .int .i64 1, .int .i64 0, .int .u64 0, .int .i64 0, .slice none 0 0, .int .u64 9, .int .u64 7, .int .u64 b, .int .u64 0, .int .u64 0, .int .u64 0, .int .u64 0, .slice none 0 0, .slice none 0 0, .float .f64 0], .int .u64 r] w fun e w' => ∃ g2, e = .returned (.tuple #[.slice (some ⟨g2, 0, none⟩) 1 1, .int .i64 0]) ∧ w.heap.size ≤ g2 ∧ w'.heap[g2]? = some (.cells #[.int .i64 5, .int .i64 0, .int .i64 1, .int .u64 R, .int .i64 0, .slice none 0 0, .int .u64 9, .int .u64 7, .int .u64 b, .int .u64 0, .int .u64 0, .int .u64 0, .int .u64 0, .slice none 0 0, .slice none 0 0, .float .f64 0] 40 (0, 0)) ∧ TB w' g (sF b true R) ∧ KeepBut w w' g none := by
  refine (hear4 w g (sF T fr rc) 1 0 b 0 0 0 0 r (fun v1 v2 w' => ∃ g2, v1 = .slice (some ⟨g2, 0, none⟩) 1 1 ∧ v2 = .int .i64 0 ∧ w.heap.size ≤ g2 ∧ w'.heap[g2]? = some (.cells #[.int .i64 5, .int .i64 0, .int .i64 1, .int .u64 R, .int .i64 0, .slice none 0 0, .int .u64 9, .int .u64 7, .int .u64 b, .int .u64 0, .int .u64 0, .int .u64 0, .int .u64 0, .slice none 0 0, .slice none 0 0, .float .f64 0] 40 (0, 0)) ∧ TB w' g (sF b true R) ∧ KeepBut w w' g none) hT (by decide) (by show (0 : Int) ≤ 0 ∧ (0 : Int) < 64; decide) k_has7 ?_).mono ?_
  · intro w1 hT1 hk
    rw [sF_freeze, hR] at hT1
    refine (prepared_ok w1 g (sF T true R) 4 1 0 0 9 7 b 0 0 0 0 hT1 (by show (1 : Int) ≠ 0; decide) h0 h1).mono ?_
    rintro e w' ⟨g2, he, hg, hc, ht, hk2⟩
    exact ⟨_, _, he, g2, rfl, rfl, Nat.le_trans hk.1 hg, hc, ht, hk.trans hk2 (.inl rfl)⟩
  · rintro e w' ⟨v1, v2, rfl, g2, rfl, rfl, h⟩
    exact ⟨g2, rfl, h⟩
theorem hearF_low (w : World) (g : Nat) (T : Int) (fr : Bool) (rc r b R : Int) (hR : (if fr = true then rc else r) = R) (hT : TB w g (sF T fr rc)) (h0 : b ≠ 0) (h1 : b < T) :
    Calls Tryd.prog 9 #[.pointer (some ⟨g, 0, none⟩), .agg #[.int .i64 4, .int .i64 1, .int .i64 0, .int .u64 0, .int .i64 0, .slice none 0 0, .int .u64 9, .int .u64 7, .int .u64 b, .int .u64 0, .int .u64 0, .int .u64 0, .int .u64 0, .slice none 0 0, .slice none 0 0, .float .f64 0], .int .u64 r] w fun e w' => ∃ g2, e = .returned (.tuple #[.slice (some ⟨g2, 0, none⟩) 1 1, .int .i64 0]) ∧ w.heap.size ≤ g2 ∧ w'.heap[g2]? = some (.cells #[.int .i64 8, .int .i64 0, .int .i64 1, .int .u64 0, .int .i64 0, .slice none 0 0, .int .u64 9, .int .u64 7, .int .u64 T, .int .u64 0, .int .u64 0, .int .u64 0, .int .u64 0, .slice none 0 0, .slice none 0 0, .float .f64 0] 40 (0, 0)) ∧ TB w' g (sF T true R) ∧ KeepBut w w' g none := by
  refine (hear4 w g (sF T fr rc) 1 0 b 0 0 0 0 r (fun v1 v2 w' => ∃ g2, v1 = .slice (some ⟨g2, 0, none⟩) 1 1 ∧ v2 = .int .i64 0 ∧ w.heap.size ≤ g2 ∧ w'.heap[g2]? = some (.cells #[.int .i64 8, .int .i64 0, .int .i64 1, .int .u64 0, .int .i64 0, .slice none 0 0, .int .u64 9, .int .u64 7, .int .u64 T, .int .u64 0, .int .u64 0, .int .u64 0, .int .u64 0, .slice none 0 0, .slice none 0 0, .float .f64 0] 40 (0, 0)) ∧ TB w' g (sF T true R) ∧ KeepBut w w' g none) hT (by decide) (by show (0 : Int) ≤ 0 ∧ (0 : Int) < 64; decide) k_has7 ?_).mono ?_
  · intro w1 hT1 hk
    rw [sF_freeze, hR] at hT1
    refine (prepared_low w1 g (sF T true R) 4 1 0 0 9 7 b 0 0 0 0 hT1 (by show (1 : Int) ≠ 0; decide) h0 h1).mono ?_
    rintro e w' ⟨g2, he, hg, hc, ht, hk2⟩
    exact ⟨_, _, he, g2, rfl, rfl, Nat.le_trans hk.1 hg, hc, ht, hk.trans hk2 (.inl rfl)⟩
  · rintro e w' ⟨v1, v2, rfl, g2, rfl, rfl, h⟩
    exact ⟨g2, rfl, h⟩
theorem frozen_F (w : World) (g : Nat) (T R : Int) (h : TB w g (sF T true R)) : Calls Tryd.prog 10 #[.pointer (some ⟨g, 0, none⟩)] w fun e w' => e = .returned (.tuple #[.int .u64 R, .bool true]) ∧ Below w.heap.size w w' := frozen_at w g (sF T true R) h
set_option maxRecDepth 100000 in
set_option maxHeartbeats 4000000 in
theorem first_long (w : World) (A0 : Option Addr) (c0 : Nat) (xs : List Int) (A1 : Option Addr) (c1 : Nat) (ys : List Int) (hr0 : Kd.C (Kd.int .u64) w A0 xs.length xs) (hr1 : Kd.C (Kd.int .u16) w A1 ys.length ys) (hTab : TabT w) (hl : 50 < xs.length ∨ 50 < ys.length) : Calls Tryd.prog 3 #[.slice A0 xs.length c0, .slice A1 ys.length c1] w fun e w' => e = .returned (.bool true) ∧ Below w.heap.size w w' := by
  have HTab := Aside0.mk hTab
  clear hTab hr0 hr1
  have hgt : ((xs.length : Int) > 50) ∨ ((ys.length : Int) > 50) := by omega
  by_cases hx : (xs.length : Int) > 50
  · have hx' : (50 : Int) < (xs.length : Int) := hx
    clear hl hgt
    go_enter Tryd.func3, Tryd.ntmps3
    go_wp2_with (go_at_call 7; refine (shown_at _ HTab.out).mono ?_; rintro e w3 ⟨rfl, hb⟩; have B := Aside0.mk hb; clear hb)
    go_ret
    exact ⟨rfl, B.out⟩
  · have hy : (50 : Int) < (ys.length : Int) := by omega
    have hx' : ¬ (50 : Int) < (xs.length : Int) := hx
    clear hl hgt hx
    go_enter Tryd.func3, Tryd.ntmps3
    go_wp2_with (go_at_call 7; refine (shown_at _ HTab.out).mono ?_; rintro e w3 ⟨rfl, hb⟩; have B := Aside0.mk hb; clear hb)
    go_ret
    exact ⟨rfl, B.out⟩
end Go.Proofs.YtkjjegakfceibaaDoor.B
