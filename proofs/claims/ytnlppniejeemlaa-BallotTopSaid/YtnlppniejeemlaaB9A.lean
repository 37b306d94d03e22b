-- printed by this session's own copy of the print program (wip/patch), for seat Ytnlppniejeemlaa
import Derived.Test.YtnlppniejeemlaaB0
import Derived.Test.YtnlppniejeemlaaB1
import Derived.Test.YtnlppniejeemlaaB2
import Derived.Test.YtnlppniejeemlaaB5
import Derived.Test.YtnlppniejeemlaaShown
namespace Go.Proofs.Ytnlppniejeemlaa.B
open Go.RowKit Go.Proofs.YtnlppniejeemlaaW.PrintWords Go.Proofs.YtnlppniejeemlaaW.PrintLast Go.Proofs.YtnlppniejeemlaaW.PrintMore
open List renaming setIfInBounds_toArray → zA, set_cons_zero → zB, set_cons_succ → zC
open Bool renaming true → tt, false → ff
attribute [local go_sem] max2_int min2_int max_two min_two max_three min_three max_four min_four   -- for this text's walks alone
set_option linter.unusedVariables false
set_option linter.unusedSimpArgs false

attribute [local go_sem high] eqA27 eqA29
/-! ### conventiclelaw16_BallotTop: function 3 -/
mutual
def conventiclelaw16_BallotTop.j0 : Nat → List (S36) → Bool → Option (Bool)
 | 0, _, _ => none
 | k + 1, x0, x14 => if x14 = true then ((conventiclelaw16_shown.f).bind fun t248 => (some t248)) else (conventiclelaw16_BallotTop.l0 k x0 0 0 0 0 0)
def conventiclelaw16_BallotTop.l0 : Nat → List (S36) → Int → Int → Int → Int → Int → Option (Bool)
 | 0, _, _, _, _, _, _ => none
 | k + 1, x0, x4, x250000, x250001, x250002, x250003 => if x4 < (x0.length : Int) then ((ballot_Acceptor_Top.f x250000 x250001 x250002 x250003).bind fun bt250 => ((ballot_Acceptor_Last.f bt250.2.1 bt250.2.2.1 bt250.2.2.2.1 bt250.2.2.2.2).bind fun bt255 => (if 0 ≤ x4 then (if (rd_T36 x0 x4).f0 = true then ((ballot_Acceptor_Accept.f bt255.2.2.2.1 bt255.2.2.2.2.1 bt255.2.2.2.2.2.1 bt255.2.2.2.2.2.2 ((rd_T36 x0 x4).f1) ((rd_T36 x0 x4).f2.f0) ((rd_T36 x0 x4).f2.f1)).bind fun bt266 => (conventiclelaw16_BallotTop.j2 k x0 x4 bt250.1 bt266.1 bt266.2.1 bt266.2.2.1 bt266.2.2.2.1 bt266.2.2.2.2 bt255.1 bt255.2.1 bt255.2.2.1)) else ((ballot_Acceptor_Prepare.f bt255.2.2.2.1 bt255.2.2.2.2.1 bt255.2.2.2.2.2.1 bt255.2.2.2.2.2.2 ((rd_T36 x0 x4).f1)).bind fun bt272 => (conventiclelaw16_BallotTop.j2 k x0 x4 bt250.1 bt272.2.2.2.1 bt272.2.2.2.2.1 bt272.2.2.2.2.2.1 bt272.2.2.2.2.2.2.1 bt272.2.2.2.2.2.2.2 bt255.1 bt255.2.1 bt255.2.2.1))) else (none)))) else (some true)
def conventiclelaw16_BallotTop.j2 : Nat → List (S36) → Int → Int → Int → Int → Int → Int → Int → Int → Int → Int → Option (Bool)
 | 0, _, _, _, _, _, _, _, _, _, _, _ => none
 | k + 1, x0, x4, x5, x7, x250000, x250001, x250002, x250003, x263000, x263001, x263002 => if 0 ≤ x4 then (if x4 < (x0.length : Int) then (if ((rd_T36 x0 x4).f1) = 0 then (if ((x7 == 0) != false) = true then (none) else (if x7 = 0 then ((ballot_Acceptor_Top.f x250000 x250001 x250002 x250003).bind fun bt281 => (if bt281.1 < x5 then (none) else ((ballot_Acceptor_Last.f bt281.2.1 bt281.2.2.1 bt281.2.2.2.1 bt281.2.2.2.2).bind fun bt286 => ((ballot_Acceptor_Top.f bt286.2.2.2.1 bt286.2.2.2.2.1 bt286.2.2.2.2.2.1 bt286.2.2.2.2.2.2).bind fun bt293 => (if bt286.1 > bt293.1 then (none) else (conventiclelaw16_BallotTop.j3 k x0 x4 x7 false bt293.2.1 bt293.2.2.1 bt293.2.2.2.1 bt293.2.2.2.2)))))) else ((ballot_Acceptor_Top.f x250000 x250001 x250002 x250003).bind fun bt298 => (if bt298.1 = x5 then ((ballot_Acceptor_Last.f bt298.2.1 bt298.2.2.1 bt298.2.2.2.1 bt298.2.2.2.2).bind fun bt303 => (if (!(bt303.1 == x263000) || ((!(bt303.2.1 == x263001) || (!(bt303.2.2.1 == x263002))))) = true then (none) else ((ballot_Acceptor_Top.f bt303.2.2.2.1 bt303.2.2.2.2.1 bt303.2.2.2.2.2.1 bt303.2.2.2.2.2.2).bind fun bt310 => (if bt310.1 < x5 then (none) else ((ballot_Acceptor_Last.f bt310.2.1 bt310.2.2.1 bt310.2.2.2.1 bt310.2.2.2.2).bind fun bt315 => ((ballot_Acceptor_Top.f bt315.2.2.2.1 bt315.2.2.2.2.1 bt315.2.2.2.2.2.1 bt315.2.2.2.2.2.2).bind fun bt322 => (if bt315.1 > bt322.1 then (none) else (conventiclelaw16_BallotTop.j3 k x0 x4 x7 false bt322.2.1 bt322.2.2.1 bt322.2.2.2.1 bt322.2.2.2.2)))))))) else (none))))) else (if ((x7 == 0) != (decide (((rd_T36 x0 x4).f1) ≥ x5))) = true then (none) else (if x7 = 0 then ((ballot_Acceptor_Top.f x250000 x250001 x250002 x250003).bind fun bt328 => (if bt328.1 < x5 then (none) else ((ballot_Acceptor_Last.f bt328.2.1 bt328.2.2.1 bt328.2.2.2.1 bt328.2.2.2.2).bind fun bt333 => ((ballot_Acceptor_Top.f bt333.2.2.2.1 bt333.2.2.2.2.1 bt333.2.2.2.2.2.1 bt333.2.2.2.2.2.2).bind fun bt340 => (if bt333.1 > bt340.1 then (none) else (conventiclelaw16_BallotTop.j3 k x0 x4 x7 false bt340.2.1 bt340.2.2.1 bt340.2.2.2.1 bt340.2.2.2.2)))))) else ((ballot_Acceptor_Top.f x250000 x250001 x250002 x250003).bind fun bt345 => (if bt345.1 = x5 then ((ballot_Acceptor_Last.f bt345.2.1 bt345.2.2.1 bt345.2.2.2.1 bt345.2.2.2.2).bind fun bt350 => (if (!(bt350.1 == x263000) || ((!(bt350.2.1 == x263001) || (!(bt350.2.2.1 == x263002))))) = true then (none) else ((ballot_Acceptor_Top.f bt350.2.2.2.1 bt350.2.2.2.2.1 bt350.2.2.2.2.2.1 bt350.2.2.2.2.2.2).bind fun bt357 => (if bt357.1 < x5 then (none) else ((ballot_Acceptor_Last.f bt357.2.1 bt357.2.2.1 bt357.2.2.2.1 bt357.2.2.2.2).bind fun bt362 => ((ballot_Acceptor_Top.f bt362.2.2.2.1 bt362.2.2.2.2.1 bt362.2.2.2.2.2.1 bt362.2.2.2.2.2.2).bind fun bt369 => (if bt362.1 > bt369.1 then (none) else (conventiclelaw16_BallotTop.j3 k x0 x4 x7 false bt369.2.1 bt369.2.2.1 bt369.2.2.2.1 bt369.2.2.2.2)))))))) else (none)))))) else (none)) else (none)
def conventiclelaw16_BallotTop.j3 : Nat → List (S36) → Int → Int → Bool → Int → Int → Int → Int → Option (Bool)
 | 0, _, _, _, _, _, _, _, _ => none
 | k + 1, x0, x4, x7, x102, x250000, x250001, x250002, x250003 => if x102 = true then (none) else (if x7 = 0 then ((ballot_Acceptor_Top.f x250000 x250001 x250002 x250003).bind fun bt374 => (if 0 ≤ x4 then (if x4 < (x0.length : Int) then (if bt374.1 = ((rd_T36 x0 x4).f1) then (if (rd_T36 x0 x4).f0 = true then ((ballot_Acceptor_Last.f bt374.2.1 bt374.2.2.1 bt374.2.2.2.1 bt374.2.2.2.2).bind fun bt381 => (if (!(bt381.2.1 == ((rd_T36 x0 x4).f2.f0)) || (!(bt381.2.2.1 == ((rd_T36 x0 x4).f2.f1)))) = true then (none) else (conventiclelaw16_BallotTop.l0 k x0 (wrap64 (x4 + 1)) bt381.2.2.2.1 bt381.2.2.2.2.1 bt381.2.2.2.2.2.1 bt381.2.2.2.2.2.2))) else (conventiclelaw16_BallotTop.l0 k x0 (wrap64 (x4 + 1)) bt374.2.1 bt374.2.2.1 bt374.2.2.2.1 bt374.2.2.2.2)) else (none)) else (none)) else (none))) else (conventiclelaw16_BallotTop.l0 k x0 (wrap64 (x4 + 1)) x250000 x250001 x250002 x250003))
end
def conventiclelaw16_BallotTop.f (k : Nat) (l0 : List (S36)) : Option (Bool) := if (l0.length : Int) > 200 then (conventiclelaw16_BallotTop.j0 k l0 true) else ((conventiclelaw16_shown.f).bind fun t247 => (conventiclelaw16_BallotTop.j0 k l0 (!t247)))
theorem conventiclelaw16_BallotTop.mono_l : ∀ k, (∀ y0 y1, LeO (conventiclelaw16_BallotTop.j0 k y0 y1) (conventiclelaw16_BallotTop.j0 (k + 1) y0 y1)) ∧ (∀ y0 y1 y2 y3 y4 y5, LeO (conventiclelaw16_BallotTop.l0 k y0 y1 y2 y3 y4 y5) (conventiclelaw16_BallotTop.l0 (k + 1) y0 y1 y2 y3 y4 y5)) ∧ (∀ y0 y1 y2 y3 y4 y5 y6 y7 y8 y9 y10, LeO (conventiclelaw16_BallotTop.j2 k y0 y1 y2 y3 y4 y5 y6 y7 y8 y9 y10) (conventiclelaw16_BallotTop.j2 (k + 1) y0 y1 y2 y3 y4 y5 y6 y7 y8 y9 y10)) ∧ (∀ y0 y1 y2 y3 y4 y5 y6 y7, LeO (conventiclelaw16_BallotTop.j3 k y0 y1 y2 y3 y4 y5 y6 y7) (conventiclelaw16_BallotTop.j3 (k + 1) y0 y1 y2 y3 y4 y5 y6 y7))
 | 0 => ⟨fun _ _ r h => by simp [conventiclelaw16_BallotTop.j0] at h, fun _ _ _ _ _ _ r h => by simp [conventiclelaw16_BallotTop.l0] at h, fun _ _ _ _ _ _ _ _ _ _ _ r h => by simp [conventiclelaw16_BallotTop.j2] at h, fun _ _ _ _ _ _ _ _ r h => by simp [conventiclelaw16_BallotTop.j3] at h⟩
 | k + 1 => by
  obtain ⟨ih0, ih1, ih2, ih3⟩ := conventiclelaw16_BallotTop.mono_l k
  refine ⟨?_, ?_, ?_, ?_⟩
  ·intro y0 y1
   unfold conventiclelaw16_BallotTop.j0
   repeat' first
   | (with_reducible exact ih0 _ _)
   | (with_reducible exact ih1 _ _ _ _ _ _)
   | (with_reducible exact ih2 _ _ _ _ _ _ _ _ _ _ _)
   | (with_reducible exact ih3 _ _ _ _ _ _ _ _)
   | (with_reducible exact LeO.refl _)
   | (with_reducible exact LeO.none _)
   | (with_reducible refine LeO.ite ?_ ?_)
   | (with_reducible refine LeO.bind ?_ (fun _ => ?_))
   | exact ih0 _ _
   | exact ih1 _ _ _ _ _ _
   | exact ih2 _ _ _ _ _ _ _ _ _ _ _
   | exact ih3 _ _ _ _ _ _ _ _
   | exact LeO.none _
   | refine LeO.ite ?_ ?_
   | refine LeO.bind ?_ (fun _ => ?_)
  ·intro y0 y1 y2 y3 y4 y5
   unfold conventiclelaw16_BallotTop.l0
   repeat' first
   | (with_reducible exact ih0 _ _)
   | (with_reducible exact ih1 _ _ _ _ _ _)
   | (with_reducible exact ih2 _ _ _ _ _ _ _ _ _ _ _)
   | (with_reducible exact ih3 _ _ _ _ _ _ _ _)
   | (with_reducible exact LeO.refl _)
   | (with_reducible exact LeO.none _)
   | (with_reducible refine LeO.ite ?_ ?_)
   | (with_reducible refine LeO.bind ?_ (fun _ => ?_))
   | exact ih0 _ _
   | exact ih1 _ _ _ _ _ _
   | exact ih2 _ _ _ _ _ _ _ _ _ _ _
   | exact ih3 _ _ _ _ _ _ _ _
   | exact LeO.none _
   | refine LeO.ite ?_ ?_
   | refine LeO.bind ?_ (fun _ => ?_)
  ·intro y0 y1 y2 y3 y4 y5 y6 y7 y8 y9 y10
   unfold conventiclelaw16_BallotTop.j2
   repeat' first
   | (with_reducible exact ih0 _ _)
   | (with_reducible exact ih1 _ _ _ _ _ _)
   | (with_reducible exact ih2 _ _ _ _ _ _ _ _ _ _ _)
   | (with_reducible exact ih3 _ _ _ _ _ _ _ _)
   | (with_reducible exact LeO.refl _)
   | (with_reducible exact LeO.none _)
   | (with_reducible refine LeO.ite ?_ ?_)
   | (with_reducible refine LeO.bind ?_ (fun _ => ?_))
   | exact ih0 _ _
   | exact ih1 _ _ _ _ _ _
   | exact ih2 _ _ _ _ _ _ _ _ _ _ _
   | exact ih3 _ _ _ _ _ _ _ _
   | exact LeO.none _
   | refine LeO.ite ?_ ?_
   | refine LeO.bind ?_ (fun _ => ?_)
  ·intro y0 y1 y2 y3 y4 y5 y6 y7
   unfold conventiclelaw16_BallotTop.j3
   repeat' first
   | (with_reducible exact ih0 _ _)
   | (with_reducible exact ih1 _ _ _ _ _ _)
   | (with_reducible exact ih2 _ _ _ _ _ _ _ _ _ _ _)
   | (with_reducible exact ih3 _ _ _ _ _ _ _ _)
   | (with_reducible exact LeO.refl _)
   | (with_reducible exact LeO.none _)
   | (with_reducible refine LeO.ite ?_ ?_)
   | (with_reducible refine LeO.bind ?_ (fun _ => ?_))
   | exact ih0 _ _
   | exact ih1 _ _ _ _ _ _
   | exact ih2 _ _ _ _ _ _ _ _ _ _ _
   | exact ih3 _ _ _ _ _ _ _ _
   | exact LeO.none _
   | refine LeO.ite ?_ ?_
   | refine LeO.bind ?_ (fun _ => ?_)
theorem conventiclelaw16_BallotTop.mono : ∀ a0 k, LeO (conventiclelaw16_BallotTop.f k a0) (conventiclelaw16_BallotTop.f (k + 1) a0) := by
 intro a0 k
 obtain ⟨ih0, ih1, ih2, ih3⟩ := conventiclelaw16_BallotTop.mono_l k
 unfold conventiclelaw16_BallotTop.f
 repeat' first
   | (with_reducible exact ih0 _ _)
   | (with_reducible exact ih1 _ _ _ _ _ _)
   | (with_reducible exact ih2 _ _ _ _ _ _ _ _ _ _ _)
   | (with_reducible exact ih3 _ _ _ _ _ _ _ _)
   | (with_reducible exact LeO.refl _)
   | (with_reducible exact LeO.none _)
   | (with_reducible refine LeO.ite ?_ ?_)
   | (with_reducible refine LeO.bind ?_ (fun _ => ?_))
   | exact ih0 _ _
   | exact ih1 _ _ _ _ _ _
   | exact ih2 _ _ _ _ _ _ _ _ _ _ _
   | exact ih3 _ _ _ _ _ _ _ _
   | exact LeO.none _
   | refine LeO.ite ?_ ?_
   | refine LeO.bind ?_ (fun _ => ?_)
def conventiclelaw16_BallotTop.T11 : Bool × List (List Nat × List Nat) := (true, [([], []), ([], []), ([], []), ([1, 2], [1, 2]), ([3], [3]), ([4], [4]), ([], []), ([], []), ([6, 7], [6, 7]), ([8], [8]), ([9], [9]), ([0, 5, 10], [0, 5, 10]), ([11, 11, 0, 1, 2, 3, 4, 5, 6, 7, 8, 9, 10, 11], [11])])
def conventiclelaw16_BallotTop.B11 : List Nat := [0, 0, 0, 6, 14, 30, 0, 0, 192, 448, 960, 2047, 4095]
theorem conventiclelaw16_BallotTop.tab11 : rtab .any (opsOf Try.f3 11) = conventiclelaw16_BallotTop.T11 := by kernel_rfl
theorem conventiclelaw16_BallotTop.bits11 : waitsOk conventiclelaw16_BallotTop.T11.2 conventiclelaw16_BallotTop.B11 = true := by kernel_rfl
def conventiclelaw16_BallotTop.T13 : Bool × List (List Nat × List Nat) := (true, [([], []), ([0], [0]), ([], []), ([], []), ([2, 3], [2, 3]), ([4], [4]), ([5], [5]), ([6], [6]), ([7], [7]), ([8], [8]), ([8], [8]), ([9, 10, 8], [8, 9, 10]), ([11, 8], [8, 11]), ([12, 8], [8, 12]), ([8], [8]), ([13, 14, 8], [8, 13, 14]), ([8, 15], [8, 15]), ([1, 16], [1, 16]), ([17, 8], [17]), ([18], [18]), ([19, 18], [18, 19]), ([20, 18, 18], [18, 20]), ([21], [21]), ([22, 21, 21], [21, 22]), ([21], [21]), ([23, 24, 21], [21, 23, 24]), ([25, 23, 21], [21, 25]), ([26], [26]), ([27, 26, 26], [26, 27]), ([26], [26]), ([28, 29, 26], [26, 28, 29]), ([26, 30, 21], [21, 26, 30]), ([21, 31, 18], [18, 21, 31]), ([18, 32], [18, 32]), ([33, 28], [33]), ([34], [34]), ([35, 34, 34], [34, 35]), ([34], [34]), ([36, 37, 34], [34, 36, 37]), ([34, 38], [34, 38]), ([39, 36], [39]), ([40], [40]), ([41, 40, 40], [40, 41]), ([42, 40], [40, 42]), ([40], [40]), ([44, 42, 40], [40, 44]), ([43, 45, 40], [40, 43, 45]), ([40, 46], [40, 46])])
def conventiclelaw16_BallotTop.B13 : List Nat := [0, 1, 0, 0, 12, 28, 60, 124, 252, 508, 508, 2044, 4092, 8188, 508, 32764, 65532, 131071, 262143, 524287, 1048575, 2097151, 4194303, 8388607, 4194303, 33554431, 67108863, 134217727, 268435455, 134217727, 1073741823, 2147483647, 4294967295, 8589934591, 17179869183, 34359738367, 68719476735, 34359738367, 274877906943, 549755813887, 1099511627775, 2199023255551, 4398046511103, 8796093022207, 2199023255551, 26388279066623, 70368744177663, 140737488355327]
theorem conventiclelaw16_BallotTop.tab13 : rtab .any (opsOf Try.f3 13) = conventiclelaw16_BallotTop.T13 := by kernel_rfl
theorem conventiclelaw16_BallotTop.bits13 : waitsOk conventiclelaw16_BallotTop.T13.2 conventiclelaw16_BallotTop.B13 = true := by kernel_rfl
def conventiclelaw16_BallotTop.T15 : Bool × List (List Nat × List Nat) := (true, [([], []), ([0], [0]), ([1], [1]), ([2], [2]), ([3, 2, 2], [2, 3]), ([2], [2]), ([2], [2]), ([5, 6, 2], [2, 5, 6]), ([7, 2], [2, 7]), ([8, 2], [2, 8]), ([4, 9, 2], [2, 4, 9]), ([10, 4, 2], [2, 10]), ([11], [11]), ([11], [11]), ([12, 13, 11], [11, 12, 13]), ([14, 11], [11, 14]), ([15, 11], [11, 15]), ([16, 11, 11], [11, 16]), ([17], [17]), ([18, 17, 17], [17, 18]), ([19, 17], [17, 19]), ([17], [17]), ([17], [17]), ([21, 22, 17], [17, 21, 22]), ([23, 17], [17, 23]), ([24, 17], [17, 24]), ([20, 25, 17], [17, 20, 25]), ([17, 26, 11], [11, 17, 26]), ([11, 27, 2], [2, 11, 27]), ([2, 28], [2, 28])])
def conventiclelaw16_BallotTop.B15 : List Nat := [0, 1, 3, 7, 15, 7, 7, 103, 231, 487, 1023, 2047, 4095, 4095, 16383, 32767, 65535, 131071, 262143, 524287, 1048575, 262143, 262143, 6553599, 14942207, 31719423, 67108863, 134217727, 268435455, 536870911]
theorem conventiclelaw16_BallotTop.tab15 : rtab .any (opsOf Try.f3 15) = conventiclelaw16_BallotTop.T15 := by kernel_rfl
theorem conventiclelaw16_BallotTop.bits15 : waitsOk conventiclelaw16_BallotTop.T15.2 conventiclelaw16_BallotTop.B15 = true := by kernel_rfl
end Go.Proofs.Ytnlppniejeemlaa.B
