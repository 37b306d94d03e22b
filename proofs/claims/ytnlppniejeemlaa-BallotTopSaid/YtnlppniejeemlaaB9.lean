-- printed by this session's own copy of the print program (wip/patch), for seat Ytnlppniejeemlaa
import Derived.Test.YtnlppniejeemlaaB0
import Derived.Test.YtnlppniejeemlaaB1
import Derived.Test.YtnlppniejeemlaaB2
import Derived.Test.YtnlppniejeemlaaB5
import Derived.Test.YtnlppniejeemlaaShown
namespace Go.Proofs.Ytnlppniejeemlaa.B
open Go.RowKit Go.Proofs.YtnlppniejeemlaaW.PrintWords Go.Proofs.YtnlppniejeemlaaW.PrintLast Go.Proofs.YtnlppniejeemlaaW.PrintMore
syntax "b% " num num : term
open Lean in
macro_rules
  | `(b% $n $k) => do
    let mut xs : Array (TSyntax `term) := #[]
    for i in [0:n.getNat] do
      if k.getNat.testBit i then xs := xs.push (← `(true)) else xs := xs.push (← `(false))
    `(#[$xs,*])
syntax "act_go" : tactic
macro_rules | `(tactic| act_go) => `(tactic| simp only [Act.put, List.setIfInBounds_toArray, List.set_cons_zero, List.set_cons_succ, i64_w, i32_w])
syntax "pu_go " ident num num term : tactic
macro_rules | `(tactic| pu_go $h $i $n $b) => `(tactic| (refine pure_ (i := $i) (N := some $n) (v := ?_) (a' := ?_) $b rfl rfl (any_of ($h).out (by kernel_rfl)) (fun _ _ _ h => h) (Or.inl ⟨by rfl, ?_⟩) ?_ ?_; rotate_left; (· intro w'; go_simp; with_reducible rfl); rotate_left; (· act_go; rfl)))
syntax "ar% " : term
macro_rules | `(ar%) => `(by (try simp only [List.map_toArray, List.map_cons, List.map_nil]); first | done | rfl | (simp only [List.length_drop, List.length_take]; rfl))
attribute [local go_sem] max2_int min2_int max_two min_two max_three min_three max_four min_four   -- for this text's walks alone
set_option linter.unusedVariables false
set_option linter.unusedSimpArgs false

attribute [local go_sem high] eqA27 eqA29
/-! ### conventiclelaw16_BallotTop: function 3 -/
mutual
def conventiclelaw16_BallotTop.j0 : Nat → List (S36) → Bool → Option (Bool)
 | 0, _, _ => none
 | k + 1, x0, x14 => if x14 = true then ((conventiclelaw16_shown.f).bind fun t248 => (some t248)) else (conventiclelaw16_BallotTop.l0 k x0 0 0 0 0 0)
def conventiclelaw16_BallotTop.l0 : Nat → List (S36) → Int → Int → Int → Int → Int → Option (Bool)
 | 0, _, _, _, _, _, _ => none
 | k + 1, x0, x4, x250000, x250001, x250002, x250003 => if x4 < (x0.length : Int) then ((ballot_Acceptor_Top.f x250000 x250001 x250002 x250003).bind fun bt250 => ((ballot_Acceptor_Last.f bt250.2.1 bt250.2.2.1 bt250.2.2.2.1 bt250.2.2.2.2).bind fun bt255 => (if 0 ≤ x4 then (if (rd_T36 x0 x4).f0 = true then ((ballot_Acceptor_Accept.f bt255.2.2.2.1 bt255.2.2.2.2.1 bt255.2.2.2.2.2.1 bt255.2.2.2.2.2.2 ((rd_T36 x0 x4).f1) ((rd_T36 x0 x4).f2.f0) ((rd_T36 x0 x4).f2.f1)).bind fun bt266 => (conventiclelaw16_BallotTop.j2 k x0 x4 bt250.1 bt266.1 bt266.2.1 bt266.2.2.1 bt266.2.2.2.1 bt266.2.2.2.2 bt255.1 bt255.2.1 bt255.2.2.1)) else ((ballot_Acceptor_Prepare.f bt255.2.2.2.1 bt255.2.2.2.2.1 bt255.2.2.2.2.2.1 bt255.2.2.2.2.2.2 ((rd_T36 x0 x4).f1)).bind fun bt272 => (conventiclelaw16_BallotTop.j2 k x0 x4 bt250.1 bt272.2.2.2.1 bt272.2.2.2.2.1 bt272.2.2.2.2.2.1 bt272.2.2.2.2.2.2.1 bt272.2.2.2.2.2.2.2 bt255.1 bt255.2.1 bt255.2.2.1))) else (none)))) else (some true)
def conventiclelaw16_BallotTop.j2 : Nat → List (S36) → Int → Int → Int → Int → Int → Int → Int → Int → Int → Int → Option (Bool)
 | 0, _, _, _, _, _, _, _, _, _, _, _ => none
 | k + 1, x0, x4, x5, x7, x250000, x250001, x250002, x250003, x263000, x263001, x263002 => if 0 ≤ x4 then (if x4 < (x0.length : Int) then (if ((rd_T36 x0 x4).f1) = 0 then (if ((x7 == 0) != false) = true then (none) else (if x7 = 0 then ((ballot_Acceptor_Top.f x250000 x250001 x250002 x250003).bind fun bt281 => (if bt281.1 < x5 then (none) else ((ballot_Acceptor_Last.f bt281.2.1 bt281.2.2.1 bt281.2.2.2.1 bt281.2.2.2.2).bind fun bt286 => ((ballot_Acceptor_Top.f bt286.2.2.2.1 bt286.2.2.2.2.1 bt286.2.2.2.2.2.1 bt286.2.2.2.2.2.2).bind fun bt293 => (if bt286.1 > bt293.1 then (none) else (conventiclelaw16_BallotTop.j3 k x0 x4 x7 false bt293.2.1 bt293.2.2.1 bt293.2.2.2.1 bt293.2.2.2.2)))))) else ((ballot_Acceptor_Top.f x250000 x250001 x250002 x250003).bind fun bt298 => (if bt298.1 = x5 then ((ballot_Acceptor_Last.f bt298.2.1 bt298.2.2.1 bt298.2.2.2.1 bt298.2.2.2.2).bind fun bt303 => (if (!(bt303.1 == x263000) || ((!(bt303.2.1 == x263001) || (!(bt303.2.2.1 == x263002))))) = true then (none) else ((ballot_Acceptor_Top.f bt303.2.2.2.1 bt303.2.2.2.2.1 bt303.2.2.2.2.2.1 bt303.2.2.2.2.2.2).bind fun bt310 => (if bt310.1 < x5 then (none) else ((ballot_Acceptor_Last.f bt310.2.1 bt310.2.2.1 bt310.2.2.2.1 bt310.2.2.2.2).bind fun bt315 => ((ballot_Acceptor_Top.f bt315.2.2.2.1 bt315.2.2.2.2.1 bt315.2.2.2.2.2.1 bt315.2.2.2.2.2.2).bind fun bt322 => (if bt315.1 > bt322.1 then (none) else (conventiclelaw16_BallotTop.j3 k x0 x4 x7 false bt322.2.1 bt322.2.2.1 bt322.2.2.2.1 bt322.2.2.2.2)))))))) else (none))))) else (if ((x7 == 0) != (decide (((rd_T36 x0 x4).f1) ≥ x5))) = true then (none) else (if x7 = 0 then ((ballot_Acceptor_Top.f x250000 x250001 x250002 x250003).bind fun bt328 => (if bt328.1 < x5 then (none) else ((ballot_Acceptor_Last.f bt328.2.1 bt328.2.2.1 bt328.2.2.2.1 bt328.2.2.2.2).bind fun bt333 => ((ballot_Acceptor_Top.f bt333.2.2.2.1 bt333.2.2.2.2.1 bt333.2.2.2.2.2.1 bt333.2.2.2.2.2.2).bind fun bt340 => (if bt333.1 > bt340.1 then (none) else (conventiclelaw16_BallotTop.j3 k x0 x4 x7 false bt340.2.1 bt340.2.2.1 bt340.2.2.2.1 bt340.2.2.2.2)))))) else ((ballot_Acceptor_Top.f x250000 x250001 x250002 x250003).bind fun bt345 => (if bt345.1 = x5 then ((ballot_Acceptor_Last.f bt345.2.1 bt345.2.2.1 bt345.2.2.2.1 bt345.2.2.2.2).bind fun bt350 => (if (!(bt350.1 == x263000) || ((!(bt350.2.1 == x263001) || (!(bt350.2.2.1 == x263002))))) = true then (none) else ((ballot_Acceptor_Top.f bt350.2.2.2.1 bt350.2.2.2.2.1 bt350.2.2.2.2.2.1 bt350.2.2.2.2.2.2).bind fun bt357 => (if bt357.1 < x5 then (none) else ((ballot_Acceptor_Last.f bt357.2.1 bt357.2.2.1 bt357.2.2.2.1 bt357.2.2.2.2).bind fun bt362 => ((ballot_Acceptor_Top.f bt362.2.2.2.1 bt362.2.2.2.2.1 bt362.2.2.2.2.2.1 bt362.2.2.2.2.2.2).bind fun bt369 => (if bt362.1 > bt369.1 then (none) else (conventiclelaw16_BallotTop.j3 k x0 x4 x7 false bt369.2.1 bt369.2.2.1 bt369.2.2.2.1 bt369.2.2.2.2)))))))) else (none)))))) else (none)) else (none)
def conventiclelaw16_BallotTop.j3 : Nat → List (S36) → Int → Int → Bool → Int → Int → Int → Int → Option (Bool)
 | 0, _, _, _, _, _, _, _, _ => none
 | k + 1, x0, x4, x7, x102, x250000, x250001, x250002, x250003 => if x102 = true then (none) else (if x7 = 0 then ((ballot_Acceptor_Top.f x250000 x250001 x250002 x250003).bind fun bt374 => (if 0 ≤ x4 then (if x4 < (x0.length : Int) then (if bt374.1 = ((rd_T36 x0 x4).f1) then (if (rd_T36 x0 x4).f0 = true then ((ballot_Acceptor_Last.f bt374.2.1 bt374.2.2.1 bt374.2.2.2.1 bt374.2.2.2.2).bind fun bt381 => (if (!(bt381.2.1 == ((rd_T36 x0 x4).f2.f0)) || (!(bt381.2.2.1 == ((rd_T36 x0 x4).f2.f1)))) = true then (none) else (conventiclelaw16_BallotTop.l0 k x0 (wrap64 (x4 + 1)) bt381.2.2.2.1 bt381.2.2.2.2.1 bt381.2.2.2.2.2.1 bt381.2.2.2.2.2.2))) else (conventiclelaw16_BallotTop.l0 k x0 (wrap64 (x4 + 1)) bt374.2.1 bt374.2.2.1 bt374.2.2.2.1 bt374.2.2.2.2)) else (none)) else (none)) else (none))) else (conventiclelaw16_BallotTop.l0 k x0 (wrap64 (x4 + 1)) x250000 x250001 x250002 x250003))
end
def conventiclelaw16_BallotTop.f (k : Nat) (l0 : List (S36)) : Option (Bool) := if (l0.length : Int) > 200 then (conventiclelaw16_BallotTop.j0 k l0 true) else ((conventiclelaw16_shown.f).bind fun t247 => (conventiclelaw16_BallotTop.j0 k l0 (!t247)))
theorem conventiclelaw16_BallotTop.mono_l : ∀ k, (∀ y0 y1, LeO (conventiclelaw16_BallotTop.j0 k y0 y1) (conventiclelaw16_BallotTop.j0 (k + 1) y0 y1)) ∧ (∀ y0 y1 y2 y3 y4 y5, LeO (conventiclelaw16_BallotTop.l0 k y0 y1 y2 y3 y4 y5) (conventiclelaw16_BallotTop.l0 (k + 1) y0 y1 y2 y3 y4 y5)) ∧ (∀ y0 y1 y2 y3 y4 y5 y6 y7 y8 y9 y10, LeO (conventiclelaw16_BallotTop.j2 k y0 y1 y2 y3 y4 y5 y6 y7 y8 y9 y10) (conventiclelaw16_BallotTop.j2 (k + 1) y0 y1 y2 y3 y4 y5 y6 y7 y8 y9 y10)) ∧ (∀ y0 y1 y2 y3 y4 y5 y6 y7, LeO (conventiclelaw16_BallotTop.j3 k y0 y1 y2 y3 y4 y5 y6 y7) (conventiclelaw16_BallotTop.j3 (k + 1) y0 y1 y2 y3 y4 y5 y6 y7))
 | 0 => ⟨fun _ _ r h => by simp [conventiclelaw16_BallotTop.j0] at h, fun _ _ _ _ _ _ r h => by simp [conventiclelaw16_BallotTop.l0] at h, fun _ _ _ _ _ _ _ _ _ _ _ r h => by simp [conventiclelaw16_BallotTop.j2] at h, fun _ _ _ _ _ _ _ _ r h => by simp [conventiclelaw16_BallotTop.j3] at h⟩
 | k + 1 => by
  obtain ⟨ih0, ih1, ih2, ih3⟩ := conventiclelaw16_BallotTop.mono_l k
  refine ⟨?_, ?_, ?_, ?_⟩
  ·intro y0 y1
   unfold conventiclelaw16_BallotTop.j0
   repeat' first
   | (with_reducible exact ih0 _ _)
   | (with_reducible exact ih1 _ _ _ _ _ _)
   | (with_reducible exact ih2 _ _ _ _ _ _ _ _ _ _ _)
   | (with_reducible exact ih3 _ _ _ _ _ _ _ _)
   | (with_reducible exact LeO.refl _)
   | (with_reducible exact LeO.none _)
   | (with_reducible refine LeO.ite ?_ ?_)
   | (with_reducible refine LeO.bind ?_ (fun _ => ?_))
   | exact ih0 _ _
   | exact ih1 _ _ _ _ _ _
   | exact ih2 _ _ _ _ _ _ _ _ _ _ _
   | exact ih3 _ _ _ _ _ _ _ _
   | exact LeO.none _
   | refine LeO.ite ?_ ?_
   | refine LeO.bind ?_ (fun _ => ?_)
  ·intro y0 y1 y2 y3 y4 y5
   unfold conventiclelaw16_BallotTop.l0
   repeat' first
   | (with_reducible exact ih0 _ _)
   | (with_reducible exact ih1 _ _ _ _ _ _)
   | (with_reducible exact ih2 _ _ _ _ _ _ _ _ _ _ _)
   | (with_reducible exact ih3 _ _ _ _ _ _ _ _)
   | (with_reducible exact LeO.refl _)
   | (with_reducible exact LeO.none _)
   | (with_reducible refine LeO.ite ?_ ?_)
   | (with_reducible refine LeO.bind ?_ (fun _ => ?_))
   | exact ih0 _ _
   | exact ih1 _ _ _ _ _ _
   | exact ih2 _ _ _ _ _ _ _ _ _ _ _
   | exact ih3 _ _ _ _ _ _ _ _
   | exact LeO.none _
   | refine LeO.ite ?_ ?_
   | refine LeO.bind ?_ (fun _ => ?_)
  ·intro y0 y1 y2 y3 y4 y5 y6 y7 y8 y9 y10
   unfold conventiclelaw16_BallotTop.j2
   repeat' first
   | (with_reducible exact ih0 _ _)
   | (with_reducible exact ih1 _ _ _ _ _ _)
   | (with_reducible exact ih2 _ _ _ _ _ _ _ _ _ _ _)
   | (with_reducible exact ih3 _ _ _ _ _ _ _ _)
   | (with_reducible exact LeO.refl _)
   | (with_reducible exact LeO.none _)
   | (with_reducible refine LeO.ite ?_ ?_)
   | (with_reducible refine LeO.bind ?_ (fun _ => ?_))
   | exact ih0 _ _
   | exact ih1 _ _ _ _ _ _
   | exact ih2 _ _ _ _ _ _ _ _ _ _ _
   | exact ih3 _ _ _ _ _ _ _ _
   | exact LeO.none _
   | refine LeO.ite ?_ ?_
   | refine LeO.bind ?_ (fun _ => ?_)
  ·intro y0 y1 y2 y3 y4 y5 y6 y7
   unfold conventiclelaw16_BallotTop.j3
   repeat' first
   | (with_reducible exact ih0 _ _)
   | (with_reducible exact ih1 _ _ _ _ _ _)
   | (with_reducible exact ih2 _ _ _ _ _ _ _ _ _ _ _)
   | (with_reducible exact ih3 _ _ _ _ _ _ _ _)
   | (with_reducible exact LeO.refl _)
   | (with_reducible exact LeO.none _)
   | (with_reducible refine LeO.ite ?_ ?_)
   | (with_reducible refine LeO.bind ?_ (fun _ => ?_))
   | exact ih0 _ _
   | exact ih1 _ _ _ _ _ _
   | exact ih2 _ _ _ _ _ _ _ _ _ _ _
   | exact ih3 _ _ _ _ _ _ _ _
   | exact LeO.none _
   | refine LeO.ite ?_ ?_
   | refine LeO.bind ?_ (fun _ => ?_)
theorem conventiclelaw16_BallotTop.mono : ∀ a0 k, LeO (conventiclelaw16_BallotTop.f k a0) (conventiclelaw16_BallotTop.f (k + 1) a0) := by
 intro a0 k
 obtain ⟨ih0, ih1, ih2, ih3⟩ := conventiclelaw16_BallotTop.mono_l k
 unfold conventiclelaw16_BallotTop.f
 repeat' first
   | (with_reducible exact ih0 _ _)
   | (with_reducible exact ih1 _ _ _ _ _ _)
   | (with_reducible exact ih2 _ _ _ _ _ _ _ _ _ _ _)
   | (with_reducible exact ih3 _ _ _ _ _ _ _ _)
   | (with_reducible exact LeO.refl _)
   | (with_reducible exact LeO.none _)
   | (with_reducible refine LeO.ite ?_ ?_)
   | (with_reducible refine LeO.bind ?_ (fun _ => ?_))
   | exact ih0 _ _
   | exact ih1 _ _ _ _ _ _
   | exact ih2 _ _ _ _ _ _ _ _ _ _ _
   | exact ih3 _ _ _ _ _ _ _ _
   | exact LeO.none _
   | refine LeO.ite ?_ ?_
   | refine LeO.bind ?_ (fun _ => ?_)
def conventiclelaw16_BallotTop.T11 : Bool × List (List Nat × List Nat) := (true, [([], []), ([], []), ([], []), ([1, 2], [1, 2]), ([3], [3]), ([4], [4]), ([], []), ([], []), ([6, 7], [6, 7]), ([8], [8]), ([9], [9]), ([0, 5, 10], [0, 5, 10]), ([11, 11, 0, 1, 2, 3, 4, 5, 6, 7, 8, 9, 10, 11], [11])])
def conventiclelaw16_BallotTop.B11 : List Nat := [0, 0, 0, 6, 14, 30, 0, 0, 192, 448, 960, 2047, 4095]
theorem conventiclelaw16_BallotTop.tab11 : rtab .any (opsOf Try.f3 11) = conventiclelaw16_BallotTop.T11 := by kernel_rfl
theorem conventiclelaw16_BallotTop.bits11 : waitsOk conventiclelaw16_BallotTop.T11.2 conventiclelaw16_BallotTop.B11 = true := by kernel_rfl
def conventiclelaw16_BallotTop.T13 : Bool × List (List Nat × List Nat) := (true, [([], []), ([0], [0]), ([], []), ([], []), ([2, 3], [2, 3]), ([4], [4]), ([5], [5]), ([6], [6]), ([7], [7]), ([8], [8]), ([8], [8]), ([9, 10, 8], [8, 9, 10]), ([11, 8], [8, 11]), ([12, 8], [8, 12]), ([8], [8]), ([13, 14, 8], [8, 13, 14]), ([8, 15], [8, 15]), ([1, 16], [1, 16]), ([17, 8], [17]), ([18], [18]), ([19, 18], [18, 19]), ([20, 18, 18], [18, 20]), ([21], [21]), ([22, 21, 21], [21, 22]), ([21], [21]), ([23, 24, 21], [21, 23, 24]), ([25, 23, 21], [21, 25]), ([26], [26]), ([27, 26, 26], [26, 27]), ([26], [26]), ([28, 29, 26], [26, 28, 29]), ([26, 30, 21], [21, 26, 30]), ([21, 31, 18], [18, 21, 31]), ([18, 32], [18, 32]), ([33, 28], [33]), ([34], [34]), ([35, 34, 34], [34, 35]), ([34], [34]), ([36, 37, 34], [34, 36, 37]), ([34, 38], [34, 38]), ([39, 36], [39]), ([40], [40]), ([41, 40, 40], [40, 41]), ([42, 40], [40, 42]), ([40], [40]), ([44, 42, 40], [40, 44]), ([43, 45, 40], [40, 43, 45]), ([40, 46], [40, 46])])
def conventiclelaw16_BallotTop.B13 : List Nat := [0, 1, 0, 0, 12, 28, 60, 124, 252, 508, 508, 2044, 4092, 8188, 508, 32764, 65532, 131071, 262143, 524287, 1048575, 2097151, 4194303, 8388607, 4194303, 33554431, 67108863, 134217727, 268435455, 134217727, 1073741823, 2147483647, 4294967295, 8589934591, 17179869183, 34359738367, 68719476735, 34359738367, 274877906943, 549755813887, 1099511627775, 2199023255551, 4398046511103, 8796093022207, 2199023255551, 26388279066623, 70368744177663, 140737488355327]
theorem conventiclelaw16_BallotTop.tab13 : rtab .any (opsOf Try.f3 13) = conventiclelaw16_BallotTop.T13 := by kernel_rfl
theorem conventiclelaw16_BallotTop.bits13 : waitsOk conventiclelaw16_BallotTop.T13.2 conventiclelaw16_BallotTop.B13 = true := by kernel_rfl
def conventiclelaw16_BallotTop.T15 : Bool × List (List Nat × List Nat) := (true, [([], []), ([0], [0]), ([1], [1]), ([2], [2]), ([3, 2, 2], [2, 3]), ([2], [2]), ([2], [2]), ([5, 6, 2], [2, 5, 6]), ([7, 2], [2, 7]), ([8, 2], [2, 8]), ([4, 9, 2], [2, 4, 9]), ([10, 4, 2], [2, 10]), ([11], [11]), ([11], [11]), ([12, 13, 11], [11, 12, 13]), ([14, 11], [11, 14]), ([15, 11], [11, 15]), ([16, 11, 11], [11, 16]), ([17], [17]), ([18, 17, 17], [17, 18]), ([19, 17], [17, 19]), ([17], [17]), ([17], [17]), ([21, 22, 17], [17, 21, 22]), ([23, 17], [17, 23]), ([24, 17], [17, 24]), ([20, 25, 17], [17, 20, 25]), ([17, 26, 11], [11, 17, 26]), ([11, 27, 2], [2, 11, 27]), ([2, 28], [2, 28])])
def conventiclelaw16_BallotTop.B15 : List Nat := [0, 1, 3, 7, 15, 7, 7, 103, 231, 487, 1023, 2047, 4095, 4095, 16383, 32767, 65535, 131071, 262143, 524287, 1048575, 262143, 262143, 6553599, 14942207, 31719423, 67108863, 134217727, 268435455, 536870911]
theorem conventiclelaw16_BallotTop.tab15 : rtab .any (opsOf Try.f3 15) = conventiclelaw16_BallotTop.T15 := by kernel_rfl
theorem conventiclelaw16_BallotTop.bits15 : waitsOk conventiclelaw16_BallotTop.T15.2 conventiclelaw16_BallotTop.B15 = true := by kernel_rfl
set_option maxHeartbeats 8000000 in
set_option maxRecDepth 100000 in
theorem conventiclelaw16_BallotTop.calls (k : Nat) (A0 : Option Addr) (c0 : Nat) (l0 : List (S36)) (r : Bool) (w : World) (hr0 : Kd.C k36 w A0 l0.length l0) (hc0 : l0.length ≤ c0) (h : conventiclelaw16_BallotTop.f k l0 = some r) :
  Calls Try.prog 3 #[.slice A0 l0.length c0] w fun e w' => e = .returned (.bool r) ∧ Below w.heap.size w w' := by
 have hu31 := Try.underlying31
 have hu29 := Try.underlying29
 have hu27 := Try.underlying27
 have hfl29_0 := fieldA29_0
 have hfl29_1 := fieldA29_1
 have HR0 := Aside0.mk hr0
 have HC0 := Aside0.mk hc0
 clear hr0 hc0
 have HB := Aside0.mk (Below.refl w.heap.size w)
 have H : (if (l0.length : Int) > 200 then (conventiclelaw16_BallotTop.j0 k l0 true) else ((conventiclelaw16_shown.f).bind fun t247 => (conventiclelaw16_BallotTop.j0 k l0 (!t247)))) = some r := h
 clear h
 have HC2 := Aside0.mk H
 clear H
 go_enter Try.func3, Try.ntmps3
 go_upto_region 1 with (fail)
 go_cut [14] (fun v14 wc => ∃ (kq : Nat) (x14_1 : Bool), v14 = .bool x14_1 ∧ Aside0 (conventiclelaw16_BallotTop.j0 kq l0 x14_1 = some r) ∧ Aside0 (kq ≤ k) ∧ Aside0 (Below w.heap.size w wc))
 case first =>
  have H := HC2.out
  clear HC2
  by_cases c3 : (l0.length : Int) > 200
  ·rw [if_pos c3] at H
   have c3b0 : decide (200 < (l0.length : Int)) = true := decide_eq_true c3
   have c3b1 : decide (200 < l0.length) = true := decide_eq_true (by omega)
   clear c3
   (first | rw [c3b0] | (simp only [i64_w, i32_w]; rw [c3b0]) | skip)
   have H' := Aside0.mk H
   clear H
   go_wp2
   go_meet
   case rel => exact ⟨_, (true), (by first | rfl | (simp; done) | (simp [*]; done)), H', ⟨by first | omega | exact Nat.le_refl _⟩, ⟨by repeat (first | (with_reducible first | exact HB.out | apply below_alloc | apply pw_below_drewN | apply below_drew1) | exact HB.out)⟩⟩
  ·rw [if_neg c3] at H
   have c3b0 : decide (200 < (l0.length : Int)) = false := decide_eq_false c3
   have c3b1 : decide (200 < l0.length) = false := decide_eq_false (by omega)
   clear c3
   (first | rw [c3b0] | (simp only [i64_w, i32_w]; rw [c3b0]) | skip)
   replace H := Option.bind_eq_some_iff.mp H
   obtain ⟨t247, A40, H⟩ := H
   replace H : (conventiclelaw16_BallotTop.j0 k l0 (!t247)) = some r := H
   have A4 := Aside0.mk A40
   clear A40
   have H' := Aside0.mk H
   clear H
   go_wp2_with (first | (go_at_call 8; (with_reducible refine (conventiclelaw16_shown.calls  t247 _ A4.out).mono ?_); rintro e w5 ⟨rfl, hb⟩; have n0_ := Aside0.mk (below_step (by repeat (first | (with_reducible first | exact HB.out | apply below_alloc | apply pw_below_drewN | apply below_drew1) | exact HB.out)) hb); clear HB; have HB := n0_; clear n0_; (try clear hb); (try clear hb2); (try clear hk); (try clear hi)))
   go_meet
   case rel => exact ⟨_, (!t247), (by first | rfl | (simp; done) | (simp [*]; done)), H', ⟨by first | omega | exact Nat.le_refl _⟩, ⟨by repeat (first | (with_reducible first | exact HB.out | apply below_alloc | apply pw_below_drewN | apply below_drew1) | exact HB.out)⟩⟩
 case rest =>
  clear HC2
  try clear p2
  try clear c3
  try clear c3b0
  try clear c3b1
  obtain ⟨kq, x14_1, rfl, HA, HJ1, HB⟩ := hcut
  cases kq with
  | zero => exact absurd HA.out (by simp [conventiclelaw16_BallotTop.j0])
  | succ kj1 =>
   have H := HA.out
   clear HA
   simp only [conventiclelaw16_BallotTop.j0] at H
   by_cases c6 : x14_1 = true
   ·subst c6
    have H1 : ((conventiclelaw16_shown.f).bind fun t248 => (some t248)) = some r := by rw [if_pos rfl] at H; exact H
    clear H
    have H := H1
    clear H1
    replace H := Option.bind_eq_some_iff.mp H
    obtain ⟨t248, A70, H⟩ := H
    replace H : (some t248) = some r := H
    have A7 := Aside0.mk A70
    clear A70
    obtain rfl := Option.some.inj H
    go_wp2_with (first | ((with_reducible refine gate_callee (f := 8) rfl ?_); refine goesL_ (some 15) rfl rfl Try.func8 (by kernel_rfl) rfl #[] rfl ar% ?_; (with_reducible refine (conventiclelaw16_shown.calls  t248 _ A7.out).mono ?_); rintro e w8 ⟨rfl, hb⟩; refine ⟨_, rfl, ?_⟩; have n0_ := Aside0.mk (below_step (by repeat (first | (with_reducible first | exact HB.out | apply below_alloc | apply pw_below_drewN | apply below_drew1) | exact HB.out)) hb); clear HB; have HB := n0_; clear n0_; (try clear hb); (try clear hb2); (try clear hk); (try clear hi)))
    go_ret
    exact ⟨by first | rfl | (simp [errW_none, errW_some] <;> rfl) | (simp [*, errW_none, errW_some] <;> rfl), by repeat (first | (with_reducible first | exact HB.out | apply below_alloc | apply pw_below_drewN | apply below_drew1) | exact HB.out)⟩
   ·replace c6 := Bool.eq_false_iff.mpr c6
    subst c6
    have H1 : (conventiclelaw16_BallotTop.l0 kj1 l0 0 0 0 0 0) = some r := by rw [if_neg (show ¬ (false = true) by decide)] at H; exact H
    clear H
    have H := H1
    clear H1
    have H' := Aside0.mk H
    clear H
    go_wp2_with (first | ((with_reducible refine gate_dst (N := 17) rfl ?_); refine box_event ?hg (N := 17) ?hd (cs := #[.int .u64 0, .int .u64 0, .int .u64 0, .int .u64 0]) (t := 31) ?hr ?_; (case hd => rfl); (case hg => rfl); (case hr => first | (go_simp; done) | (go_simp; rfl)); intro gb249 hg w9 hbox hb; have n0_ := Aside0.mk (below_step (by repeat (first | (with_reducible first | exact HB.out | apply below_alloc | apply pw_below_drewN | apply below_drew1) | exact HB.out)) hb); have n1_ := Aside0.mk ((show IsS31 w w9 gb249 0 0 0 0 from ⟨hbox, (by rw [hg]; exact (below_size (by repeat (first | (with_reducible first | exact HB.out | apply below_alloc | apply pw_below_drewN | apply below_drew1) | exact HB.out))) : w.heap.size ≤ gb249)⟩)); have n2_ := Aside0.mk ((by rw [hg]; exact (below_size (by repeat (first | (with_reducible first | exact HB.out | apply below_alloc | apply pw_below_drewN | apply below_drew1) | exact HB.out))) : w.heap.size ≤ gb249)); have n3_ := Aside0.mk ((by rw [hg]; exact (below_size (by repeat (first | (with_reducible first | exact HB.out | apply below_alloc | apply pw_below_drewN | apply below_drew1) | exact HB.out))) : w.heap.size ≤ gb249)); clear HB; have HB := n0_; have HI249 := n1_; have GW249 := n2_; have GE249 := n3_; clear n0_ n1_ n2_ n3_; clear hb hbox hg))
    go_loopg [4] kj1 (fun kq v4 w' => ∃ (x4_2 : Int) (x250000_2 : Int) (x250001_2 : Int) (x250002_2 : Int) (x250003_2 : Int), v4 = .int .i64 x4_2 ∧ Aside0 (conventiclelaw16_BallotTop.l0 kq l0 x4_2 x250000_2 x250001_2 x250002_2 x250003_2 = some r) ∧ Aside0 (kq ≤ kj1) ∧ Aside0 (IsS31 w w' gb249 x250000_2 x250001_2 x250002_2 x250003_2) ∧ Aside0 (Below w.heap.size w w'))
    case atStart => exact ⟨(0), (0), (0), (0), (0), (by first | rfl | (simp; done) | (simp [*]; done)), H', ⟨Nat.le_refl _⟩, ⟨by repeat (first | (with_reducible first | exact HI249.out | apply IsS31.alloc | apply IsS31.drewN | apply IsS31.drew | apply IsS31.set_0 | apply IsS31.set_1 | apply IsS31.set_2 | apply IsS31.set_3) | exact HI249.out)⟩, ⟨by repeat (first | (with_reducible first | exact HB.out | apply below_alloc | apply pw_below_drewN | apply below_drew1 | refine below_set ?_ (IsS31.ge HI249.out)) | exact HB.out)⟩⟩
    case round =>
     clear H'
     try clear p2
     try clear c3
     try clear c3b0
     try clear c3b1
     try clear c6
     try clear c8
     try clear p2
     obtain ⟨x4_2, x250000_2, x250001_2, x250002_2, x250003_2, rfl, HA, HK2, HI249, HB⟩ := hrel
     cases gk with
     | zero => exact absurd HA.out (by simp [conventiclelaw16_BallotTop.l0])
     | succ k2 =>
      have H := HA.out
      clear HA
      simp only [conventiclelaw16_BallotTop.l0] at H
      by_cases c10 : x4_2 < (l0.length : Int)
      ·rw [if_pos c10] at H
       have c10b0 : decide (x4_2 < (l0.length : Int)) = true := decide_eq_true c10
       clear c10
       replace H := Option.bind_eq_some_iff.mp H
       obtain ⟨⟨t250, t251, t252, t253, t254⟩, A110, H⟩ := H
       replace H : ((ballot_Acceptor_Last.f t251 t252 t253 t254).bind fun bt255 => (if 0 ≤ x4_2 then (if (rd_T36 l0 x4_2).f0 = true then ((ballot_Acceptor_Accept.f bt255.2.2.2.1 bt255.2.2.2.2.1 bt255.2.2.2.2.2.1 bt255.2.2.2.2.2.2 ((rd_T36 l0 x4_2).f1) ((rd_T36 l0 x4_2).f2.f0) ((rd_T36 l0 x4_2).f2.f1)).bind fun bt266 => (conventiclelaw16_BallotTop.j2 k2 l0 x4_2 t250 bt266.1 bt266.2.1 bt266.2.2.1 bt266.2.2.2.1 bt266.2.2.2.2 bt255.1 bt255.2.1 bt255.2.2.1)) else ((ballot_Acceptor_Prepare.f bt255.2.2.2.1 bt255.2.2.2.2.1 bt255.2.2.2.2.2.1 bt255.2.2.2.2.2.2 ((rd_T36 l0 x4_2).f1)).bind fun bt272 => (conventiclelaw16_BallotTop.j2 k2 l0 x4_2 t250 bt272.2.2.2.1 bt272.2.2.2.2.1 bt272.2.2.2.2.2.1 bt272.2.2.2.2.2.2.1 bt272.2.2.2.2.2.2.2 bt255.1 bt255.2.1 bt255.2.2.1))) else (none))) = some r := H
       have A11 := Aside0.mk A110
       clear A110
       replace H := Option.bind_eq_some_iff.mp H
       obtain ⟨⟨t255, t256, t257, t258, t259, t260, t261⟩, A120, H⟩ := H
       replace H : (if 0 ≤ x4_2 then (if (rd_T36 l0 x4_2).f0 = true then ((ballot_Acceptor_Accept.f t258 t259 t260 t261 ((rd_T36 l0 x4_2).f1) ((rd_T36 l0 x4_2).f2.f0) ((rd_T36 l0 x4_2).f2.f1)).bind fun bt266 => (conventiclelaw16_BallotTop.j2 k2 l0 x4_2 t250 bt266.1 bt266.2.1 bt266.2.2.1 bt266.2.2.2.1 bt266.2.2.2.2 t255 t256 t257)) else ((ballot_Acceptor_Prepare.f t258 t259 t260 t261 ((rd_T36 l0 x4_2).f1)).bind fun bt272 => (conventiclelaw16_BallotTop.j2 k2 l0 x4_2 t250 bt272.2.2.2.1 bt272.2.2.2.2.1 bt272.2.2.2.2.2.1 bt272.2.2.2.2.2.2.1 bt272.2.2.2.2.2.2.2 t255 t256 t257))) else (none)) = some r := H
       have A12 := Aside0.mk A120
       clear A120
       by_cases c13 : 0 ≤ x4_2
       ·rw [if_pos c13] at H
        have c13b0 : decide (0 ≤ x4_2) = true := decide_eq_true c13
        clear c13
        have HC14 := Aside0.mk H
        clear H
        go_upto_if 32 with (first | ((with_reducible refine gate_callee (f := 9) rfl ?_); refine goesL_ (some 25) rfl rfl Try.func9 (by kernel_rfl) rfl #[.pointer (some ⟨gb249, 0, none⟩)] rfl ar% ?_; (with_reducible refine (ballot_Acceptor_Top.calls gb249 x250000_2 x250001_2 x250002_2 x250003_2 t250 t251 t252 t253 t254 w _ ?side1 ?side2 A11.out).mono ?_); (case side1 => repeat (first | (with_reducible first | exact HI249.out | apply IsS31.alloc | apply IsS31.drewN | apply IsS31.drew | apply IsS31.set_0 | apply IsS31.set_1 | apply IsS31.set_2 | apply IsS31.set_3) | exact HI249.out)); (case side2 => repeat (first | (with_reducible first | exact HB.out | apply below_alloc | apply pw_below_drewN | apply below_drew1 | refine below_set ?_ (IsS31.ge HI249.out)) | exact HB.out)); rintro e w15 ⟨rfl, hi, hb, hk⟩; refine ⟨_, rfl, ?_⟩; have n0_ := Aside0.mk (hb); have n1_ := Aside0.mk (hi); clear HB; clear HI249; have HB := n0_; have HI249 := n1_; clear n0_ n1_; (try clear hb); (try clear hb2); (try clear hk); (try clear hi)) | ((with_reducible refine gate_callee (f := 10) rfl ?_); refine goesL_ (some 27) rfl rfl Try.func10 (by kernel_rfl) rfl #[.pointer (some ⟨gb249, 0, none⟩)] rfl ar% ?_; (with_reducible refine (ballot_Acceptor_Last.calls gb249 t251 t252 t253 t254 t255 t256 t257 t258 t259 t260 t261 w _ ?side1 ?side2 A12.out).mono ?_); (case side1 => repeat (first | (with_reducible first | exact HI249.out | apply IsS31.alloc | apply IsS31.drewN | apply IsS31.drew | apply IsS31.set_0 | apply IsS31.set_1 | apply IsS31.set_2 | apply IsS31.set_3) | exact HI249.out)); (case side2 => repeat (first | (with_reducible first | exact HB.out | apply below_alloc | apply pw_below_drewN | apply below_drew1 | refine below_set ?_ (IsS31.ge HI249.out)) | exact HB.out)); rintro e w16 ⟨rfl, hi, hb, hk⟩; refine ⟨_, rfl, ?_⟩; have n0_ := Aside0.mk (hb); have n1_ := Aside0.mk (hi); clear HB; clear HI249; have HB := n0_; have HI249 := n1_; clear n0_ n1_; (try clear hb); (try clear hb2); (try clear hk); (try clear hi)) | ((with_reducible refine gate_dst (N := 6) rfl ?_); refine box_event ?hg (N := 6) ?hd (cs := #[.int .u64 0, .int .u64 0, .int .u64 0]) (t := 29) ?hr ?_; (case hd => rfl); (case hg => rfl); (case hr => first | (go_simp; done) | (go_simp; rfl)); intro gb262 hg w17 hbox hb; have n0_ := Aside0.mk (IsS31.below (by repeat (first | (with_reducible first | exact HI249.out | apply IsS31.alloc | apply IsS31.drewN | apply IsS31.drew | apply IsS31.set_0 | apply IsS31.set_1 | apply IsS31.set_2 | apply IsS31.set_3) | exact HI249.out)) hb); have n1_ := Aside0.mk (below_step (by repeat (first | (with_reducible first | exact HB.out | apply below_alloc | apply pw_below_drewN | apply below_drew1 | refine below_set ?_ (IsS31.ge HI249.out)) | exact HB.out)) hb); have n2_ := Aside0.mk (hbox); have n3_ := Aside0.mk ((by rw [hg]; exact (below_size (by repeat (first | (with_reducible first | exact HB.out | apply below_alloc | apply pw_below_drewN | apply below_drew1 | refine below_set ?_ (IsS31.ge HI249.out)) | exact HB.out))) : w.heap.size ≤ gb262)); have n4_ := Aside0.mk ((by rw [hg]; exact (below_size (by repeat (first | (with_reducible first | exact HB.out | apply below_alloc | apply pw_below_drewN | apply below_drew1 | refine below_set ?_ (IsS31.ge HI249.out)) | exact HB.out))) : w.heap.size ≤ gb262)); have n5_ := Aside0.mk ((by rw [hg]; exact Nat.ne_of_lt (IsS31.lt (show IsS31 w _ gb249 t258 t259 t260 t261 from by repeat (first | (with_reducible first | exact HI249.out | apply IsS31.alloc | apply IsS31.drewN | apply IsS31.drew | apply IsS31.set_0 | apply IsS31.set_1 | apply IsS31.set_2 | apply IsS31.set_3) | exact HI249.out))) : gb249 ≠ gb262)); have n6_ := Aside0.mk ((by rw [hg]; exact Nat.ne_of_gt (IsS31.lt (show IsS31 w _ gb249 t258 t259 t260 t261 from by repeat (first | (with_reducible first | exact HI249.out | apply IsS31.alloc | apply IsS31.drewN | apply IsS31.drew | apply IsS31.set_0 | apply IsS31.set_1 | apply IsS31.set_2 | apply IsS31.set_3) | exact HI249.out))) : gb262 ≠ gb249)); clear HI249; clear HB; have HI249 := n0_; have HB := n1_; have BK262 := n2_; have GW262 := n3_; have GE262 := n4_; have NB249_262 := n5_; have NB262_249 := n6_; clear n0_ n1_ n2_ n3_ n4_ n5_ n6_; clear hb hbox hg; have hnb18 := NB262_249.out; have hnc18 := NB249_262.out; have hcz19_0 : w17.cell? ⟨gb262, 0, none⟩ = some (.int .u64 0) := (blk_cell BK262.out 0).trans rfl; have hcz19_1 : w17.cell? ⟨gb262, 1, none⟩ = some (.int .u64 0) := (blk_cell BK262.out 1).trans rfl; have hcz19_2 : w17.cell? ⟨gb262, 2, none⟩ = some (.int .u64 0) := (blk_cell BK262.out 2).trans rfl; have hfz19_0 := blk_frozen BK262.out 0; have hfz19_1 := blk_frozen BK262.out 1; have hfz19_2 := blk_frozen BK262.out 2; have p263 : 0 ≤ (x4_2 : Int) := of_decide_eq_true (by first | (with_reducible assumption) | assumption); have q263 : x4_2 < (l0.length : Int) := of_decide_eq_true (by first | (with_reducible assumption) | assumption); obtain ⟨ad263, e263, hx263_0, hx263_1, hx263_2, hx263_3⟩ := at_T36 HR0.out x4_2 p263 q263; cases e263; have hn263_0 : ad263.block ≠ gb262 := Nat.ne_of_lt (Nat.lt_of_lt_of_le (by have := World.block_lt_of_cell? _ _ hx263_0; first | rwa [add_block] at this | exact this) GW262.out); have hn263_1 : ad263.block ≠ gb262 := Nat.ne_of_lt (Nat.lt_of_lt_of_le (by have := World.block_lt_of_cell? _ _ hx263_0; first | rwa [add_block] at this | exact this) GW262.out); have hn263_2 : ad263.block ≠ gb262 := Nat.ne_of_lt (Nat.lt_of_lt_of_le (by have := World.block_lt_of_cell? _ _ hx263_0; first | rwa [add_block] at this | exact this) GW262.out); replace hx263_0 := (HB.out.cell (World.block_lt_of_cell? w _ hx263_0)).trans hx263_0; replace hx263_1 := (HB.out.cell (World.block_lt_of_cell? w _ hx263_1)).trans hx263_1; replace hx263_2 := (HB.out.cell (World.block_lt_of_cell? w _ hx263_2)).trans hx263_2; replace hx263_3 := (HB.out.cell (World.block_lt_of_cell? w _ hx263_3)).trans hx263_3; replace hx263_0 := (cell_far (p := ⟨gb262, 0, none⟩) (by first | (rw [add_block]; exact hn263_0) | (show (Addr.add _ _).block ≠ _; rw [add_block]; exact hn263_0) | exact hn263_0) (.int .u64 t255)).trans hx263_0; replace hx263_1 := (cell_far (p := ⟨gb262, 0, none⟩) (by first | (rw [add_block]; exact hn263_0) | (show (Addr.add _ _).block ≠ _; rw [add_block]; exact hn263_0) | exact hn263_0) (.int .u64 t255)).trans hx263_1; replace hx263_2 := (cell_far (p := ⟨gb262, 0, none⟩) (by first | (rw [add_block]; exact hn263_0) | (show (Addr.add _ _).block ≠ _; rw [add_block]; exact hn263_0) | exact hn263_0) (.int .u64 t255)).trans hx263_2; replace hx263_3 := (cell_far (p := ⟨gb262, 0, none⟩) (by first | (rw [add_block]; exact hn263_0) | (show (Addr.add _ _).block ≠ _; rw [add_block]; exact hn263_0) | exact hn263_0) (.int .u64 t255)).trans hx263_3; replace hx263_0 := (cell_far (p := ⟨gb262, 1, none⟩) (by first | (rw [add_block]; exact hn263_1) | (show (Addr.add _ _).block ≠ _; rw [add_block]; exact hn263_1) | exact hn263_1) (.int .u64 t256)).trans hx263_0; replace hx263_1 := (cell_far (p := ⟨gb262, 1, none⟩) (by first | (rw [add_block]; exact hn263_1) | (show (Addr.add _ _).block ≠ _; rw [add_block]; exact hn263_1) | exact hn263_1) (.int .u64 t256)).trans hx263_1; replace hx263_2 := (cell_far (p := ⟨gb262, 1, none⟩) (by first | (rw [add_block]; exact hn263_1) | (show (Addr.add _ _).block ≠ _; rw [add_block]; exact hn263_1) | exact hn263_1) (.int .u64 t256)).trans hx263_2; replace hx263_3 := (cell_far (p := ⟨gb262, 1, none⟩) (by first | (rw [add_block]; exact hn263_1) | (show (Addr.add _ _).block ≠ _; rw [add_block]; exact hn263_1) | exact hn263_1) (.int .u64 t256)).trans hx263_3; replace hx263_0 := (cell_far (p := ⟨gb262, 2, none⟩) (by first | (rw [add_block]; exact hn263_2) | (show (Addr.add _ _).block ≠ _; rw [add_block]; exact hn263_2) | exact hn263_2) (.int .u64 t257)).trans hx263_0; replace hx263_1 := (cell_far (p := ⟨gb262, 2, none⟩) (by first | (rw [add_block]; exact hn263_2) | (show (Addr.add _ _).block ≠ _; rw [add_block]; exact hn263_2) | exact hn263_2) (.int .u64 t257)).trans hx263_1; replace hx263_2 := (cell_far (p := ⟨gb262, 2, none⟩) (by first | (rw [add_block]; exact hn263_2) | (show (Addr.add _ _).block ≠ _; rw [add_block]; exact hn263_2) | exact hn263_2) (.int .u64 t257)).trans hx263_2; replace hx263_3 := (cell_far (p := ⟨gb262, 2, none⟩) (by first | (rw [add_block]; exact hn263_2) | (show (Addr.add _ _).block ≠ _; rw [add_block]; exact hn263_2) | exact hn263_2) (.int .u64 t257)).trans hx263_3; clear hn263_0; clear hn263_1; clear hn263_2; replace p263 := eq_true p263; replace q263 := eq_true q263))
        (try simp only [Act.put, List.setIfInBounds_toArray, List.set_cons_zero, List.set_cons_succ])
        go_cut [7] (fun v7 wc => ∃ (kq : Nat) (x7_13 : Int) (x250000_13 : Int) (x250001_13 : Int) (x250002_13 : Int) (x250003_13 : Int), v7 = .int .i64 x7_13 ∧ Aside0 (conventiclelaw16_BallotTop.j2 kq l0 x4_2 t250 x7_13 x250000_13 x250001_13 x250002_13 x250003_13 t255 t256 t257 = some r) ∧ Aside0 (kq ≤ k2) ∧ Aside0 (wc.heap[gb262]? = some (.cells #[.int .u64 t255, .int .u64 t256, .int .u64 t257] 29 (0, 0))) ∧ Aside0 (IsS31 w wc gb249 x250000_13 x250001_13 x250002_13 x250003_13) ∧ Aside0 (Below w.heap.size w wc))
        case first =>
         have H := HC14.out
         clear HC14
         obtain ⟨bq20, hbq20⟩ : ∃ b_ : Bool, b_ = ((rd_T36 l0 x4_2).f0) := ⟨_, rfl⟩
         replace H : (if bq20 = true then ((ballot_Acceptor_Accept.f t258 t259 t260 t261 ((rd_T36 l0 x4_2).f1) ((rd_T36 l0 x4_2).f2.f0) ((rd_T36 l0 x4_2).f2.f1)).bind fun bt266 => (conventiclelaw16_BallotTop.j2 k2 l0 x4_2 t250 bt266.1 bt266.2.1 bt266.2.2.1 bt266.2.2.2.1 bt266.2.2.2.2 t255 t256 t257)) else ((ballot_Acceptor_Prepare.f t258 t259 t260 t261 ((rd_T36 l0 x4_2).f1)).bind fun bt272 => (conventiclelaw16_BallotTop.j2 k2 l0 x4_2 t250 bt272.2.2.2.1 bt272.2.2.2.2.1 bt272.2.2.2.2.2.1 bt272.2.2.2.2.2.2.1 bt272.2.2.2.2.2.2.2 t255 t256 t257))) = some r := by rw [← hbq20] at H; exact H
         have Nbq20 := Aside0.mk hbq20
         clear hbq20
         (try rw [← Nbq20.out])
         by_cases c21 : bq20 = true
         ·subst c21
          have H1 : ((ballot_Acceptor_Accept.f t258 t259 t260 t261 ((rd_T36 l0 x4_2).f1) ((rd_T36 l0 x4_2).f2.f0) ((rd_T36 l0 x4_2).f2.f1)).bind fun bt266 => (conventiclelaw16_BallotTop.j2 k2 l0 x4_2 t250 bt266.1 bt266.2.1 bt266.2.2.1 bt266.2.2.2.1 bt266.2.2.2.2 t255 t256 t257)) = some r := by rw [if_pos rfl] at H; exact H
          clear H
          have H := H1
          clear H1
          replace H := Option.bind_eq_some_iff.mp H
          obtain ⟨⟨t266, t267, t268, t269, t270⟩, A220, H⟩ := H
          replace H : (conventiclelaw16_BallotTop.j2 k2 l0 x4_2 t250 t266 t267 t268 t269 t270 t255 t256 t257) = some r := H
          have A22 := Aside0.mk A220
          clear A220
          have H' := Aside0.mk H
          clear H
          try go_wp2
          have n0_ : Aside0 ((((w17.setCell ⟨gb262, 0, none⟩ (.int .u64 t255)).setCell ⟨gb262, 1, none⟩ (.int .u64 t256)).setCell ⟨gb262, 2, none⟩ (.int .u64 t257)).heap[gb262]? = some (.cells #[.int .u64 t255, .int .u64 t256, .int .u64 t257] 29 (0, 0))) := ⟨by (with_reducible repeat (first | refine blk_drewN ?_ _ | refine blk_drew ?_ | refine blk_alloc ?_ _)); refine blk_put (cs := #[.int .u64 t255, .int .u64 t256, .int .u64 0]) ?_ 2 _ rfl; (with_reducible repeat (first | refine blk_drewN ?_ _ | refine blk_drew ?_ | refine blk_alloc ?_ _)); refine blk_put (cs := #[.int .u64 t255, .int .u64 0, .int .u64 0]) ?_ 1 _ rfl; (with_reducible repeat (first | refine blk_drewN ?_ _ | refine blk_drew ?_ | refine blk_alloc ?_ _)); refine blk_put (cs := #[.int .u64 0, .int .u64 0, .int .u64 0]) ?_ 0 _ rfl; (with_reducible repeat (first | refine blk_drewN ?_ _ | refine blk_drew ?_ | refine blk_alloc ?_ _)); exact BK262.out⟩
          have n1_ : Aside0 (IsS31 w (((w17.setCell ⟨gb262, 0, none⟩ (.int .u64 t255)).setCell ⟨gb262, 1, none⟩ (.int .u64 t256)).setCell ⟨gb262, 2, none⟩ (.int .u64 t257)) gb249 t258 t259 t260 t261) := ⟨by repeat (first | (with_reducible first | exact HI249.out | apply IsS31.alloc | apply IsS31.drewN | apply IsS31.drew | apply IsS31.set_0 | apply IsS31.set_1 | apply IsS31.set_2 | apply IsS31.set_3 | refine IsS31.far ?_ NB249_262.out _) | exact HI249.out)⟩
          have n2_ : Aside0 (Below w.heap.size w (((w17.setCell ⟨gb262, 0, none⟩ (.int .u64 t255)).setCell ⟨gb262, 1, none⟩ (.int .u64 t256)).setCell ⟨gb262, 2, none⟩ (.int .u64 t257))) := ⟨by repeat (first | (with_reducible first | exact HB.out | apply below_alloc | apply pw_below_drewN | apply below_drew1 | refine below_set ?_ (IsS31.ge HI249.out) | refine below_set ?_ GE262.out) | exact HB.out)⟩
          (try clear BK262)
          (try clear HI249)
          (try clear HB)
          generalize (((w17.setCell ⟨gb262, 0, none⟩ (.int .u64 t255)).setCell ⟨gb262, 1, none⟩ (.int .u64 t256)).setCell ⟨gb262, 2, none⟩ (.int .u64 t257)) = w23 at n0_ n1_ n2_ ⊢
          have BK262 := n0_
          have HI249 := n1_
          have HB := n2_
          clear n0_ n1_ n2_
          have n0_ := Aside0.mk (blk_drew BK262.out)
          have n1_ := Aside0.mk (IsS31.drew HI249.out)
          have n2_ := Aside0.mk (below_drew1 HB.out)
          clear BK262
          clear HI249
          clear HB
          have BK262 := n0_
          have HI249 := n1_
          have HB := n2_
          clear n0_ n1_ n2_
          have p264 : 0 ≤ (x4_2 : Int) := of_decide_eq_true (by first | (with_reducible assumption) | assumption)
          have q264 : x4_2 < (l0.length : Int) := of_decide_eq_true (by first | (with_reducible assumption) | assumption)
          obtain ⟨ad264, e264, hx264_0, hx264_1, hx264_2, hx264_3⟩ := at_T36 HR0.out x4_2 p264 q264
          have hw264_3 := hx264_3
          have hw264_2 := hx264_2
          have hw264_1 := hx264_1
          have hw264_0 := hx264_0
          (try rw [← Nbq20.out] at hw264_0)
          (try rw [← Nbq20.out] at hx264_0)
          obtain rfl : ad263 = ad264 := (by injection e264)
          replace hx264_0 := (HB.out.cell (World.block_lt_of_cell? w _ hx264_0)).trans hx264_0
          replace hx264_1 := (HB.out.cell (World.block_lt_of_cell? w _ hx264_1)).trans hx264_1
          replace hx264_2 := (HB.out.cell (World.block_lt_of_cell? w _ hx264_2)).trans hx264_2
          replace hx264_3 := (HB.out.cell (World.block_lt_of_cell? w _ hx264_3)).trans hx264_3
          replace p264 := eq_true p264
          replace q264 := eq_true q264
          have p265 : 0 ≤ (x4_2 : Int) := of_decide_eq_true (by first | (with_reducible assumption) | assumption)
          have q265 : x4_2 < (l0.length : Int) := of_decide_eq_true (by first | (with_reducible assumption) | assumption)
          obtain ⟨ad265, e265, hx265_0, hx265_1, hx265_2, hx265_3⟩ := at_T36 HR0.out x4_2 p265 q265
          have hw265_3 := hx265_3
          have hw265_2 := hx265_2
          have hw265_1 := hx265_1
          have hw265_0 := hx265_0
          (try rw [← Nbq20.out] at hw265_0)
          (try rw [← Nbq20.out] at hx265_0)
          obtain rfl : ad263 = ad265 := (by injection e265)
          replace hx265_0 := (HB.out.cell (World.block_lt_of_cell? w _ hx265_0)).trans hx265_0
          replace hx265_1 := (HB.out.cell (World.block_lt_of_cell? w _ hx265_1)).trans hx265_1
          replace hx265_2 := (HB.out.cell (World.block_lt_of_cell? w _ hx265_2)).trans hx265_2
          replace hx265_3 := (HB.out.cell (World.block_lt_of_cell? w _ hx265_3)).trans hx265_3
          replace p265 := eq_true p265
          replace q265 := eq_true q265
          refine start_ (n := 13) (S := fun w' => w'.cell? (ad263.add ((x4_2).toNat * 4)) = some (.bool (true)) ∧ w'.cell? ⟨(ad263.add ((x4_2).toNat * 4)).block, (ad263.add ((x4_2).toNat * 4)).off + 1, none⟩ = some (.int .u64 ((rd_T36 l0 x4_2).f1)) ∧ w'.cell? ⟨(ad263.add ((x4_2).toNat * 4)).block, (ad263.add ((x4_2).toNat * 4)).off + 2, none⟩ = some (.int .u64 ((rd_T36 l0 x4_2).f2.f0)) ∧ w'.cell? ⟨(ad263.add ((x4_2).toNat * 4)).block, (ad263.add ((x4_2).toNat * 4)).off + 3, none⟩ = some (.int .u64 ((rd_T36 l0 x4_2).f2.f1)) ∧ w'.cell? (ad263.add ((x4_2).toNat * 4)) = some (.bool (true)) ∧ w'.cell? ⟨(ad263.add ((x4_2).toNat * 4)).block, (ad263.add ((x4_2).toNat * 4)).off + 1, none⟩ = some (.int .u64 ((rd_T36 l0 x4_2).f1)) ∧ w'.cell? ⟨(ad263.add ((x4_2).toNat * 4)).block, (ad263.add ((x4_2).toNat * 4)).off + 2, none⟩ = some (.int .u64 ((rd_T36 l0 x4_2).f2.f0)) ∧ w'.cell? ⟨(ad263.add ((x4_2).toNat * 4)).block, (ad263.add ((x4_2).toNat * 4)).off + 3, none⟩ = some (.int .u64 ((rd_T36 l0 x4_2).f2.f1))) (ds := []) (b% 13 0) (by kernel_rfl) rfl rfl ⟨((HB.out.cell (World.block_lt_of_cell? w _ hw264_0)).trans hw264_0), ((HB.out.cell (World.block_lt_of_cell? w _ hw264_1)).trans hw264_1), ((HB.out.cell (World.block_lt_of_cell? w _ hw264_2)).trans hw264_2), ((HB.out.cell (World.block_lt_of_cell? w _ hw264_3)).trans hw264_3), ((HB.out.cell (World.block_lt_of_cell? w _ hw265_0)).trans hw265_0), ((HB.out.cell (World.block_lt_of_cell? w _ hw265_1)).trans hw265_1), ((HB.out.cell (World.block_lt_of_cell? w _ hw265_2)).trans hw265_2), ((HB.out.cell (World.block_lt_of_cell? w _ hw265_3)).trans hw265_3)⟩ (fun hHeld => ?_); refine with_tabW conventiclelaw16_BallotTop.tab11 conventiclelaw16_BallotTop.bits11 (fun HT_ HW_ => ?_)
          generalize w23.drew = w24 at BK262 HI249 HB hx264_0 hx264_1 hx264_2 hx264_3 hx265_0 hx265_1 hx265_2 hx265_3 hHeld ⊢
          pu_go HT_ 0 33 (b% 13 1)
          pu_go HT_ 1 34 (b% 13 3)
          pu_go HT_ 2 35 (b% 13 7)
          pu_go HT_ 3 36 (b% 13 15)
          pu_go HT_ 4 37 (b% 13 31)
          pu_go HT_ 6 39 (b% 13 95)
          pu_go HT_ 7 40 (b% 13 223)
          pu_go HT_ 8 41 (b% 13 479)
          pu_go HT_ 9 42 (b% 13 991)
          refine take_ (i := 5) (N := some 38) (v := ?_) (a' := ?_) (b% 13 1023) rfl rfl (take_ofW HT_.out HW_.out (by kernel_rfl)) (fun _ _ _ h => h) (Or.inl ⟨by rfl, ?_⟩) hHeld ?_ ?_
          rotate_left
          ·rintro w' ⟨s0, s1, s2, s3, s4, s5, s6, s7⟩
           go_simp
           with_reducible rfl
          rotate_left
          ·act_go
           rfl
          refine take_ (i := 10) (N := some 43) (v := ?_) (a' := ?_) (b% 13 2047) rfl rfl (take_ofW HT_.out HW_.out (by kernel_rfl)) (fun _ _ _ h => h) (Or.inl ⟨by rfl, ?_⟩) hHeld ?_ ?_
          rotate_left
          ·rintro w' ⟨s0, s1, s2, s3, s4, s5, s6, s7⟩
           go_simp
           with_reducible rfl
          rotate_left
          ·act_go
           rfl
          refine one_ (i := 11) (N := some 44) (b% 13 4095) rfl rfl (one_of HT_.out (by kernel_rfl)) (by decide) (fun K hK => ?_)
          refine goes_ Try.func11 (by kernel_rfl) rfl #[.pointer (some ⟨gb249, 0, none⟩), .int .u64 ((rd_T36 l0 x4_2).f1), .agg #[.int .u64 ((rd_T36 l0 x4_2).f2.f0), .int .u64 ((rd_T36 l0 x4_2).f2.f1)]] (by rfl) rfl rfl ar% ?_
          with_reducible refine (ballot_Acceptor_Accept.calls gb249 t258 t259 t260 t261 ((rd_T36 l0 x4_2).f1) ((rd_T36 l0 x4_2).f2.f0) ((rd_T36 l0 x4_2).f2.f1) t266 t267 t268 t269 t270 w _ ?side1 ?side2 A22.out).mono ?_
          (case side1 => repeat (first | (with_reducible first | exact HI249.out | apply IsS31.alloc | apply IsS31.drewN | apply IsS31.drew | apply IsS31.set_0 | apply IsS31.set_1 | apply IsS31.set_2 | apply IsS31.set_3 | refine IsS31.far ?_ NB249_262.out _) | exact HI249.out))
          (case side2 => repeat (first | (with_reducible first | exact HB.out | apply below_alloc | apply pw_below_drewN | apply below_drew1 | refine below_set ?_ (IsS31.ge HI249.out) | refine below_set ?_ GE262.out) | exact HB.out))
          rintro e w25 ⟨rfl, hi, hb, hk⟩
          refine ⟨_, rfl, ?_⟩
          have n0_ := Aside0.mk (KeepBut.blk hk (g' := gb262) (o := .cells #[.int .u64 t255, .int .u64 t256, .int .u64 t257] 29 (0, 0)) (by (with_reducible repeat (first | refine blk_drewN ?_ _ | refine blk_drew ?_ | refine blk_alloc ?_ _)); exact BK262.out) NB262_249.out (by simp))
          have n1_ := Aside0.mk (hb)
          have n2_ := Aside0.mk (hi)
          clear BK262
          clear HB
          clear HI249
          have BK262 := n0_
          have HB := n1_
          have HI249 := n2_
          clear n0_ n1_ n2_
          (try clear hb)
          (try clear hb2)
          (try clear hk)
          (try clear hi)
          refine hK.out _ _ ⟨((HB.out.cell (World.block_lt_of_cell? w _ hw264_0)).trans hw264_0), ((HB.out.cell (World.block_lt_of_cell? w _ hw264_1)).trans hw264_1), ((HB.out.cell (World.block_lt_of_cell? w _ hw264_2)).trans hw264_2), ((HB.out.cell (World.block_lt_of_cell? w _ hw264_3)).trans hw264_3), ((HB.out.cell (World.block_lt_of_cell? w _ hw265_0)).trans hw265_0), ((HB.out.cell (World.block_lt_of_cell? w _ hw265_1)).trans hw265_1), ((HB.out.cell (World.block_lt_of_cell? w _ hw265_2)).trans hw265_2), ((HB.out.cell (World.block_lt_of_cell? w _ hw265_3)).trans hw265_3)⟩ (fun hHeld => ?_)
          clear hK K
          refine norm_ (a' := ?_) ?_ ?_
          rotate_left
          ·show Act.put _ (some 44) _ = _
           act_go
           rfl
          pu_go HT_ 12 7 (b% 13 8191)
          refine done_ (done_of HT_.out (by kernel_rfl)) ?_
          try go_wp2
          go_meet
          case rel => exact ⟨_, (t266), (t267), (t268), (t269), (t270), (by first | rfl | (simp; done) | (simp [*]; done)), H', ⟨by have := HJ1.out; have := HK2.out; first | omega | exact Nat.le_refl _⟩, ⟨by (with_reducible repeat (first | refine blk_drewN ?_ _ | refine blk_drew ?_ | refine blk_alloc ?_ _)); exact BK262.out⟩, ⟨by repeat (first | (with_reducible first | exact HI249.out | apply IsS31.alloc | apply IsS31.drewN | apply IsS31.drew | apply IsS31.set_0 | apply IsS31.set_1 | apply IsS31.set_2 | apply IsS31.set_3 | refine IsS31.far ?_ NB249_262.out _) | exact HI249.out)⟩, ⟨by repeat (first | (with_reducible first | exact HB.out | apply below_alloc | apply pw_below_drewN | apply below_drew1 | refine below_set ?_ (IsS31.ge HI249.out) | refine below_set ?_ GE262.out) | exact HB.out)⟩⟩
         ·replace c21 := Bool.eq_false_iff.mpr c21
          subst c21
          have H1 : ((ballot_Acceptor_Prepare.f t258 t259 t260 t261 ((rd_T36 l0 x4_2).f1)).bind fun bt272 => (conventiclelaw16_BallotTop.j2 k2 l0 x4_2 t250 bt272.2.2.2.1 bt272.2.2.2.2.1 bt272.2.2.2.2.2.1 bt272.2.2.2.2.2.2.1 bt272.2.2.2.2.2.2.2 t255 t256 t257)) = some r := by rw [if_neg (show ¬ (false = true) by decide)] at H; exact H
          clear H
          have H := H1
          clear H1
          replace H := Option.bind_eq_some_iff.mp H
          obtain ⟨⟨t272, t273, t274, t275, t276, t277, t278, t279⟩, A260, H⟩ := H
          replace H : (conventiclelaw16_BallotTop.j2 k2 l0 x4_2 t250 t275 t276 t277 t278 t279 t255 t256 t257) = some r := H
          have A26 := Aside0.mk A260
          clear A260
          have H' := Aside0.mk H
          clear H
          have p271 : 0 ≤ (x4_2 : Int) := of_decide_eq_true (by first | (with_reducible assumption) | assumption)
          have q271 : x4_2 < (l0.length : Int) := of_decide_eq_true (by first | (with_reducible assumption) | assumption)
          obtain ⟨ad271, e271, hx271_0, hx271_1, hx271_2, hx271_3⟩ := at_T36 HR0.out x4_2 p271 q271
          (try rw [← Nbq20.out] at hx271_0)
          obtain rfl : ad263 = ad271 := (by injection e271)
          have hn271_0 : ad263.block ≠ gb262 := Nat.ne_of_lt (Nat.lt_of_lt_of_le (by have := World.block_lt_of_cell? _ _ hx271_0; first | rwa [add_block] at this | exact this) GW262.out)
          have hn271_1 : ad263.block ≠ gb262 := Nat.ne_of_lt (Nat.lt_of_lt_of_le (by have := World.block_lt_of_cell? _ _ hx271_0; first | rwa [add_block] at this | exact this) GW262.out)
          have hn271_2 : ad263.block ≠ gb262 := Nat.ne_of_lt (Nat.lt_of_lt_of_le (by have := World.block_lt_of_cell? _ _ hx271_0; first | rwa [add_block] at this | exact this) GW262.out)
          replace hx271_0 := (HB.out.cell (World.block_lt_of_cell? w _ hx271_0)).trans hx271_0
          replace hx271_1 := (HB.out.cell (World.block_lt_of_cell? w _ hx271_1)).trans hx271_1
          replace hx271_2 := (HB.out.cell (World.block_lt_of_cell? w _ hx271_2)).trans hx271_2
          replace hx271_3 := (HB.out.cell (World.block_lt_of_cell? w _ hx271_3)).trans hx271_3
          replace hx271_0 := (cell_far (p := ⟨gb262, 0, none⟩) (by first | (rw [add_block]; exact hn271_0) | (show (Addr.add _ _).block ≠ _; rw [add_block]; exact hn271_0) | exact hn271_0) (.int .u64 t255)).trans hx271_0
          replace hx271_1 := (cell_far (p := ⟨gb262, 0, none⟩) (by first | (rw [add_block]; exact hn271_0) | (show (Addr.add _ _).block ≠ _; rw [add_block]; exact hn271_0) | exact hn271_0) (.int .u64 t255)).trans hx271_1
          replace hx271_2 := (cell_far (p := ⟨gb262, 0, none⟩) (by first | (rw [add_block]; exact hn271_0) | (show (Addr.add _ _).block ≠ _; rw [add_block]; exact hn271_0) | exact hn271_0) (.int .u64 t255)).trans hx271_2
          replace hx271_3 := (cell_far (p := ⟨gb262, 0, none⟩) (by first | (rw [add_block]; exact hn271_0) | (show (Addr.add _ _).block ≠ _; rw [add_block]; exact hn271_0) | exact hn271_0) (.int .u64 t255)).trans hx271_3
          replace hx271_0 := (cell_far (p := ⟨gb262, 1, none⟩) (by first | (rw [add_block]; exact hn271_1) | (show (Addr.add _ _).block ≠ _; rw [add_block]; exact hn271_1) | exact hn271_1) (.int .u64 t256)).trans hx271_0
          replace hx271_1 := (cell_far (p := ⟨gb262, 1, none⟩) (by first | (rw [add_block]; exact hn271_1) | (show (Addr.add _ _).block ≠ _; rw [add_block]; exact hn271_1) | exact hn271_1) (.int .u64 t256)).trans hx271_1
          replace hx271_2 := (cell_far (p := ⟨gb262, 1, none⟩) (by first | (rw [add_block]; exact hn271_1) | (show (Addr.add _ _).block ≠ _; rw [add_block]; exact hn271_1) | exact hn271_1) (.int .u64 t256)).trans hx271_2
          replace hx271_3 := (cell_far (p := ⟨gb262, 1, none⟩) (by first | (rw [add_block]; exact hn271_1) | (show (Addr.add _ _).block ≠ _; rw [add_block]; exact hn271_1) | exact hn271_1) (.int .u64 t256)).trans hx271_3
          replace hx271_0 := (cell_far (p := ⟨gb262, 2, none⟩) (by first | (rw [add_block]; exact hn271_2) | (show (Addr.add _ _).block ≠ _; rw [add_block]; exact hn271_2) | exact hn271_2) (.int .u64 t257)).trans hx271_0
          replace hx271_1 := (cell_far (p := ⟨gb262, 2, none⟩) (by first | (rw [add_block]; exact hn271_2) | (show (Addr.add _ _).block ≠ _; rw [add_block]; exact hn271_2) | exact hn271_2) (.int .u64 t257)).trans hx271_1
          replace hx271_2 := (cell_far (p := ⟨gb262, 2, none⟩) (by first | (rw [add_block]; exact hn271_2) | (show (Addr.add _ _).block ≠ _; rw [add_block]; exact hn271_2) | exact hn271_2) (.int .u64 t257)).trans hx271_2
          replace hx271_3 := (cell_far (p := ⟨gb262, 2, none⟩) (by first | (rw [add_block]; exact hn271_2) | (show (Addr.add _ _).block ≠ _; rw [add_block]; exact hn271_2) | exact hn271_2) (.int .u64 t257)).trans hx271_3
          clear hn271_0
          clear hn271_1
          clear hn271_2
          replace p271 := eq_true p271
          replace q271 := eq_true q271
          go_wp2_with (first | ((with_reducible refine gate_callee (f := 12) rfl ?_); refine goesL_ (some 52) rfl rfl Try.func12 (by kernel_rfl) rfl #[.pointer (some ⟨gb249, 0, none⟩), .int .u64 ((rd_T36 l0 x4_2).f1)] rfl ar% ?_; (with_reducible refine (ballot_Acceptor_Prepare.calls gb249 t258 t259 t260 t261 ((rd_T36 l0 x4_2).f1) t272 t273 t274 t275 t276 t277 t278 t279 w _ ?side1 ?side2 A26.out).mono ?_); (case side1 => repeat (first | (with_reducible first | exact HI249.out | apply IsS31.alloc | apply IsS31.drewN | apply IsS31.drew | apply IsS31.set_0 | apply IsS31.set_1 | apply IsS31.set_2 | apply IsS31.set_3 | refine IsS31.far ?_ NB249_262.out _) | exact HI249.out)); (case side2 => repeat (first | (with_reducible first | exact HB.out | apply below_alloc | apply pw_below_drewN | apply below_drew1 | refine below_set ?_ (IsS31.ge HI249.out) | refine below_set ?_ GE262.out) | exact HB.out)); rintro e w27 ⟨rfl, hi, hb, hk⟩; refine ⟨_, rfl, ?_⟩; have n0_ := Aside0.mk (KeepBut.blk hk (g' := gb262) (o := .cells #[.int .u64 t255, .int .u64 t256, .int .u64 t257] 29 (0, 0)) (by (with_reducible repeat (first | refine blk_drewN ?_ _ | refine blk_drew ?_ | refine blk_alloc ?_ _)); refine blk_put (cs := #[.int .u64 t255, .int .u64 t256, .int .u64 0]) ?_ 2 _ rfl; (with_reducible repeat (first | refine blk_drewN ?_ _ | refine blk_drew ?_ | refine blk_alloc ?_ _)); refine blk_put (cs := #[.int .u64 t255, .int .u64 0, .int .u64 0]) ?_ 1 _ rfl; (with_reducible repeat (first | refine blk_drewN ?_ _ | refine blk_drew ?_ | refine blk_alloc ?_ _)); refine blk_put (cs := #[.int .u64 0, .int .u64 0, .int .u64 0]) ?_ 0 _ rfl; (with_reducible repeat (first | refine blk_drewN ?_ _ | refine blk_drew ?_ | refine blk_alloc ?_ _)); exact BK262.out) NB262_249.out (by simp)); have n1_ := Aside0.mk (hb); have n2_ := Aside0.mk (hi); clear BK262; clear HB; clear HI249; have BK262 := n0_; have HB := n1_; have HI249 := n2_; clear n0_ n1_ n2_; (try clear hb); (try clear hb2); (try clear hk); (try clear hi)))
          go_meet
          case rel => exact ⟨_, (t275), (t276), (t277), (t278), (t279), (by first | rfl | (simp; done) | (simp [*]; done)), H', ⟨by have := HJ1.out; have := HK2.out; first | omega | exact Nat.le_refl _⟩, ⟨by (with_reducible repeat (first | refine blk_drewN ?_ _ | refine blk_drew ?_ | refine blk_alloc ?_ _)); exact BK262.out⟩, ⟨by repeat (first | (with_reducible first | exact HI249.out | apply IsS31.alloc | apply IsS31.drewN | apply IsS31.drew | apply IsS31.set_0 | apply IsS31.set_1 | apply IsS31.set_2 | apply IsS31.set_3 | refine IsS31.far ?_ NB249_262.out _) | exact HI249.out)⟩, ⟨by repeat (first | (with_reducible first | exact HB.out | apply below_alloc | apply pw_below_drewN | apply below_drew1 | refine below_set ?_ (IsS31.ge HI249.out) | refine below_set ?_ GE262.out) | exact HB.out)⟩⟩
        case rest =>
         clear HC14
         try clear c1
         try clear c2
         try clear p2
         try clear q2
         try clear hx2
         try clear c3
         try clear c3b0
         try clear c3b1
         try clear c6
         try clear c8
         try clear c9
         try clear c10
         try clear c10b0
         try clear c11
         try clear c12
         try clear c13
         try clear c13b0
         try clear c18
         try clear q20
         try clear c21
         try clear p26
         try clear q26
         try clear hx26
         try clear p27
         try clear q27
         try clear hx27
         try clear hcz19_0
         try clear hcz19_1
         try clear hcz19_2
         try clear hfz19_0
         try clear hfz19_1
         try clear hfz19_2
         try clear hx263_0
         try clear hx263_1
         try clear hx263_2
         try clear hx263_3
         try clear hx264_0
         try clear hx264_1
         try clear hx264_2
         try clear hx264_3
         try clear hx265_0
         try clear hx265_1
         try clear hx265_2
         try clear hx265_3
         try clear hx271_0
         try clear hx271_1
         try clear hx271_2
         try clear hx271_3
         try clear p2
         try clear p263
         try clear p264
         try clear p265
         try clear p271
         try clear q263
         try clear q264
         try clear q265
         try clear q271
         obtain ⟨kq, x7_13, x250000_13, x250001_13, x250002_13, x250003_13, rfl, HA, HJ13, BK262, HI249, HB⟩ := hcut
         cases kq with
         | zero => exact absurd HA.out (by simp [conventiclelaw16_BallotTop.j2])
         | succ kj13 =>
          have H := HA.out
          clear HA
          simp only [conventiclelaw16_BallotTop.j2] at H
          have HC28 := Aside0.mk H
          clear H
          go_upto_region 13 with (fail)
          go_cut [102] (fun v102 wc => ∃ (kq : Nat) (x102_27 : Bool) (x250000_27 : Int) (x250001_27 : Int) (x250002_27 : Int) (x250003_27 : Int), v102 = .bool x102_27 ∧ Aside0 (conventiclelaw16_BallotTop.j3 kq l0 x4_2 x7_13 x102_27 x250000_27 x250001_27 x250002_27 x250003_27 = some r) ∧ Aside0 (kq ≤ kj13) ∧ Aside0 (wc.heap[gb262]? = some (.cells #[.int .u64 t255, .int .u64 t256, .int .u64 t257] 29 (0, 0))) ∧ Aside0 (IsS31 w wc gb249 x250000_27 x250001_27 x250002_27 x250003_27) ∧ Aside0 (Below w.heap.size w wc))
          case first =>
           have H := HC28.out
           clear HC28
           by_cases c29 : 0 ≤ x4_2
           ·rw [if_pos c29] at H
            have c29b0 : decide (0 ≤ x4_2) = true := decide_eq_true c29
            clear c29
            (first | rw [c29b0] | (simp only [i64_w, i32_w]; rw [c29b0]) | skip)
            by_cases c30 : x4_2 < (l0.length : Int)
            ·rw [if_pos c30] at H
             have c30b0 : decide (x4_2 < (l0.length : Int)) = true := decide_eq_true c30
             clear c30
             by_cases c31 : ((rd_T36 l0 x4_2).f1) = 0
             ·rw [if_pos c31] at H
              have c31b0 : (((rd_T36 l0 x4_2).f1) == 0) = true := beq_iff_eq.mpr c31
              have c31b1 : (((rd_T36 l0 x4_2).f1) != 0) = false := bne_eq_false_iff_eq.mpr c31
              clear c31
              by_cases c32 : ((x7_13 == 0) != false) = true
              ·rw [if_pos c32] at H
               exact absurd H (by simp)
              ·rw [if_neg c32] at H
               have c32b0 : ((x7_13 == 0) != false) = false := by simpa using c32
               have c32b9 : (x7_13 == 0) = false := by simpa using c32b0
               (try (have c32b1 : decide ((x7_13 == 0) = false) = true := by simpa using c32))
               (try (have c32b2 : ((x7_13 == 0) == false) = true := by simpa using c32))
               clear c32
               by_cases c33 : x7_13 = 0
               ·rw [if_pos c33] at H
                have c33b0 : (x7_13 == 0) = true := beq_iff_eq.mpr c33
                have c33b1 : (x7_13 != 0) = false := bne_eq_false_iff_eq.mpr c33
                clear c33
                replace H := Option.bind_eq_some_iff.mp H
                obtain ⟨⟨t281, t282, t283, t284, t285⟩, A340, H⟩ := H
                replace H : (if t281 < t250 then (none) else ((ballot_Acceptor_Last.f t282 t283 t284 t285).bind fun bt286 => ((ballot_Acceptor_Top.f bt286.2.2.2.1 bt286.2.2.2.2.1 bt286.2.2.2.2.2.1 bt286.2.2.2.2.2.2).bind fun bt293 => (if bt286.1 > bt293.1 then (none) else (conventiclelaw16_BallotTop.j3 kj13 l0 x4_2 x7_13 false bt293.2.1 bt293.2.2.1 bt293.2.2.2.1 bt293.2.2.2.2))))) = some r := H
                have A34 := Aside0.mk A340
                clear A340
                by_cases c35 : t281 < t250
                ·rw [if_pos c35] at H
                 exact absurd H (by simp)
                ·rw [if_neg c35] at H
                 have c35b0 : decide (t281 < t250) = false := decide_eq_false c35
                 clear c35
                 replace H := Option.bind_eq_some_iff.mp H
                 obtain ⟨⟨t286, t287, t288, t289, t290, t291, t292⟩, A360, H⟩ := H
                 replace H : ((ballot_Acceptor_Top.f t289 t290 t291 t292).bind fun bt293 => (if t286 > bt293.1 then (none) else (conventiclelaw16_BallotTop.j3 kj13 l0 x4_2 x7_13 false bt293.2.1 bt293.2.2.1 bt293.2.2.2.1 bt293.2.2.2.2))) = some r := H
                 have A36 := Aside0.mk A360
                 clear A360
                 replace H := Option.bind_eq_some_iff.mp H
                 obtain ⟨⟨t293, t294, t295, t296, t297⟩, A370, H⟩ := H
                 replace H : (if t286 > t293 then (none) else (conventiclelaw16_BallotTop.j3 kj13 l0 x4_2 x7_13 false t294 t295 t296 t297)) = some r := H
                 have A37 := Aside0.mk A370
                 clear A370
                 by_cases c38 : t286 > t293
                 ·rw [if_pos c38] at H
                  exact absurd H (by simp)
                 ·rw [if_neg c38] at H
                  have c38b0 : decide (t293 < t286) = false := decide_eq_false c38
                  clear c38
                  have H' := Aside0.mk H
                  clear H
                  try go_wp2
                  have n0_ := Aside0.mk (blk_drew BK262.out)
                  have n1_ := Aside0.mk (IsS31.drew HI249.out)
                  have n2_ := Aside0.mk (below_drew1 HB.out)
                  clear BK262
                  clear HI249
                  clear HB
                  have BK262 := n0_
                  have HI249 := n1_
                  have HB := n2_
                  clear n0_ n1_ n2_
                  have p280 : 0 ≤ (x4_2 : Int) := of_decide_eq_true (by first | (with_reducible assumption) | assumption)
                  have q280 : x4_2 < (l0.length : Int) := of_decide_eq_true (by first | (with_reducible assumption) | assumption)
                  obtain ⟨ad280, e280, hx280_0, hx280_1, hx280_2, hx280_3⟩ := at_T36 HR0.out x4_2 p280 q280
                  have hw280_3 := hx280_3
                  have hw280_2 := hx280_2
                  have hw280_1 := hx280_1
                  have hw280_0 := hx280_0
                  obtain rfl : ad263 = ad280 := (by injection e280)
                  replace hx280_0 := (HB.out.cell (World.block_lt_of_cell? w _ hx280_0)).trans hx280_0
                  replace hx280_1 := (HB.out.cell (World.block_lt_of_cell? w _ hx280_1)).trans hx280_1
                  replace hx280_2 := (HB.out.cell (World.block_lt_of_cell? w _ hx280_2)).trans hx280_2
                  replace hx280_3 := (HB.out.cell (World.block_lt_of_cell? w _ hx280_3)).trans hx280_3
                  replace p280 := eq_true p280
                  replace q280 := eq_true q280
                  refine start_ (n := 48) (S := fun w' => w'.cell? (ad263.add ((x4_2).toNat * 4)) = some (.bool ((rd_T36 l0 x4_2).f0)) ∧ w'.cell? ⟨(ad263.add ((x4_2).toNat * 4)).block, (ad263.add ((x4_2).toNat * 4)).off + 1, none⟩ = some (.int .u64 ((rd_T36 l0 x4_2).f1)) ∧ w'.cell? ⟨(ad263.add ((x4_2).toNat * 4)).block, (ad263.add ((x4_2).toNat * 4)).off + 2, none⟩ = some (.int .u64 ((rd_T36 l0 x4_2).f2.f0)) ∧ w'.cell? ⟨(ad263.add ((x4_2).toNat * 4)).block, (ad263.add ((x4_2).toNat * 4)).off + 3, none⟩ = some (.int .u64 ((rd_T36 l0 x4_2).f2.f1))) (ds := []) (b% 48 0) (by kernel_rfl) rfl rfl ⟨((HB.out.cell (World.block_lt_of_cell? w _ hw280_0)).trans hw280_0), ((HB.out.cell (World.block_lt_of_cell? w _ hw280_1)).trans hw280_1), ((HB.out.cell (World.block_lt_of_cell? w _ hw280_2)).trans hw280_2), ((HB.out.cell (World.block_lt_of_cell? w _ hw280_3)).trans hw280_3)⟩ (fun hHeld => ?_); refine with_tabW conventiclelaw16_BallotTop.tab13 conventiclelaw16_BallotTop.bits13 (fun HT_ HW_ => ?_)
                  generalize wc.drew = w39 at BK262 HI249 HB hx280_0 hx280_1 hx280_2 hx280_3 hHeld ⊢
                  pu_go HT_ 0 55 (b% 48 1)
                  pu_go HT_ 1 56 (b% 48 3)
                  pu_go HT_ 2 57 (b% 48 7)
                  pu_go HT_ 3 58 (b% 48 15)
                  pu_go HT_ 4 59 (b% 48 31)
                  pu_go HT_ 5 60 (b% 48 63)
                  refine take_ (i := 6) (N := some 61) (v := ?_) (a' := ?_) (b% 48 127) rfl rfl (take_ofW HT_.out HW_.out (by kernel_rfl)) (fun _ _ _ h => h) (Or.inl ⟨by rfl, ?_⟩) hHeld ?_ ?_
                  rotate_left
                  ·rintro w' ⟨s0, s1, s2, s3⟩
                   go_simp
                   with_reducible rfl
                  rotate_left
                  ·act_go
                   rfl
                  pu_go HT_ 7 62 (b% 48 255)
                  pu_go HT_ 8 63 (b% 48 511)
                  refine pure_ (i := 9) (N := some 64) (v := undef) (a' := ?_) (b% 48 1023) rfl rfl (any_of HT_.out (by kernel_rfl)) (fun _ _ _ h => h) (Or.inr ⟨by rfl, rfl⟩) ?_ ?_
                  rotate_left
                  ·act_go
                   rfl
                  refine pure_ (i := 10) (N := some 65) (v := undef) (a' := ?_) (b% 48 2047) rfl rfl (any_of HT_.out (by kernel_rfl)) (fun _ _ _ h => h) (Or.inr ⟨by rfl, rfl⟩) ?_ ?_
                  rotate_left
                  ·act_go
                   rfl
                  refine pure_ (i := 11) (N := some 66) (v := undef) (a' := ?_) (b% 48 4095) rfl rfl (any_of HT_.out (by kernel_rfl)) (fun _ _ _ h => h) (Or.inr ⟨by rfl, rfl⟩) ?_ ?_
                  rotate_left
                  ·act_go
                   rfl
                  refine pure_ (i := 12) (N := some 67) (v := undef) (a' := ?_) (b% 48 8191) rfl rfl (any_of HT_.out (by kernel_rfl)) (fun _ _ _ h => h) (Or.inr ⟨by rfl, rfl⟩) ?_ ?_
                  rotate_left
                  ·act_go
                   rfl
                  refine pure_ (i := 13) (N := some 68) (v := undef) (a' := ?_) (b% 48 16383) rfl rfl (any_of HT_.out (by kernel_rfl)) (fun _ _ _ h => h) (Or.inr ⟨by rfl, rfl⟩) ?_ ?_
                  rotate_left
                  ·act_go
                   rfl
                  refine pure_ (i := 14) (N := some 69) (v := undef) (a' := ?_) (b% 48 32767) rfl rfl (any_of HT_.out (by kernel_rfl)) (fun _ _ _ h => h) (Or.inr ⟨by rfl, rfl⟩) ?_ ?_
                  rotate_left
                  ·act_go
                   rfl
                  refine pure_ (i := 15) (N := some 70) (v := undef) (a' := ?_) (b% 48 65535) rfl rfl (any_of HT_.out (by kernel_rfl)) (fun _ _ _ h => h) (Or.inr ⟨by rfl, rfl⟩) ?_ ?_
                  rotate_left
                  ·act_go
                   rfl
                  pu_go HT_ 16 71 (b% 48 131071)
                  pu_go HT_ 17 72 (b% 48 262143)
                  pu_go HT_ 18 73 (b% 48 524287)
                  pu_go HT_ 19 74 (b% 48 1048575)
                  pu_go HT_ 20 75 (b% 48 2097151)
                  pu_go HT_ 21 76 (b% 48 4194303)
                  refine pure_ (i := 22) (N := some 77) (v := undef) (a' := ?_) (b% 48 8388607) rfl rfl (any_of HT_.out (by kernel_rfl)) (fun _ _ _ h => h) (Or.inr ⟨by rfl, rfl⟩) ?_ ?_
                  rotate_left
                  ·act_go
                   rfl
                  refine pure_ (i := 23) (N := some 78) (v := undef) (a' := ?_) (b% 48 16777215) rfl rfl (any_of HT_.out (by kernel_rfl)) (fun _ _ _ h => h) (Or.inr ⟨by rfl, rfl⟩) ?_ ?_
                  rotate_left
                  ·act_go
                   rfl
                  refine pure_ (i := 24) (N := some 79) (v := undef) (a' := ?_) (b% 48 33554431) rfl rfl (any_of HT_.out (by kernel_rfl)) (fun _ _ _ h => h) (Or.inr ⟨by rfl, rfl⟩) ?_ ?_
                  rotate_left
                  ·act_go
                   rfl
                  refine pure_ (i := 25) (N := some 80) (v := undef) (a' := ?_) (b% 48 67108863) rfl rfl (any_of HT_.out (by kernel_rfl)) (fun _ _ _ h => h) (Or.inr ⟨by rfl, rfl⟩) ?_ ?_
                  rotate_left
                  ·act_go
                   rfl
                  refine pure_ (i := 26) (N := some 81) (v := undef) (a' := ?_) (b% 48 134217727) rfl rfl (any_of HT_.out (by kernel_rfl)) (fun _ _ _ h => h) (Or.inr ⟨by rfl, rfl⟩) ?_ ?_
                  rotate_left
                  ·act_go
                   rfl
                  refine pure_ (i := 27) (N := some 82) (v := undef) (a' := ?_) (b% 48 268435455) rfl rfl (any_of HT_.out (by kernel_rfl)) (fun _ _ _ h => h) (Or.inr ⟨by rfl, rfl⟩) ?_ ?_
                  rotate_left
                  ·act_go
                   rfl
                  refine pure_ (i := 28) (N := some 83) (v := undef) (a' := ?_) (b% 48 536870911) rfl rfl (any_of HT_.out (by kernel_rfl)) (fun _ _ _ h => h) (Or.inr ⟨by rfl, rfl⟩) ?_ ?_
                  rotate_left
                  ·act_go
                   rfl
                  refine pure_ (i := 29) (N := some 84) (v := undef) (a' := ?_) (b% 48 1073741823) rfl rfl (any_of HT_.out (by kernel_rfl)) (fun _ _ _ h => h) (Or.inr ⟨by rfl, rfl⟩) ?_ ?_
                  rotate_left
                  ·act_go
                   rfl
                  refine pure_ (i := 30) (N := some 85) (v := undef) (a' := ?_) (b% 48 2147483647) rfl rfl (any_of HT_.out (by kernel_rfl)) (fun _ _ _ h => h) (Or.inr ⟨by rfl, rfl⟩) ?_ ?_
                  rotate_left
                  ·act_go
                   rfl
                  refine pure_ (i := 31) (N := some 86) (v := undef) (a' := ?_) (b% 48 4294967295) rfl rfl (any_of HT_.out (by kernel_rfl)) (fun _ _ _ h => h) (Or.inr ⟨by rfl, rfl⟩) ?_ ?_
                  rotate_left
                  ·act_go
                   rfl
                  pu_go HT_ 32 87 (b% 48 8589934591)
                  pu_go HT_ 33 88 (b% 48 17179869183)
                  pu_go HT_ 34 89 (b% 48 34359738367)
                  pu_go HT_ 35 90 (b% 48 68719476735)
                  pu_go HT_ 37 92 (b% 48 206158430207)
                  refine one_ (i := 36) (N := some 91) (b% 48 274877906943) rfl rfl (one_of HT_.out (by kernel_rfl)) (by decide) (fun K hK => ?_)
                  refine goes_ Try.func9 (by kernel_rfl) rfl #[.pointer (some ⟨gb249, 0, none⟩)] (by rfl) rfl rfl ar% ?_
                  with_reducible refine (ballot_Acceptor_Top.calls gb249 x250000_13 x250001_13 x250002_13 x250003_13 t281 t282 t283 t284 t285 w _ ?side1 ?side2 A34.out).mono ?_
                  (case side1 => repeat (first | (with_reducible first | exact HI249.out | apply IsS31.alloc | apply IsS31.drewN | apply IsS31.drew | apply IsS31.set_0 | apply IsS31.set_1 | apply IsS31.set_2 | apply IsS31.set_3 | refine IsS31.far ?_ NB249_262.out _) | exact HI249.out))
                  (case side2 => repeat (first | (with_reducible first | exact HB.out | apply below_alloc | apply pw_below_drewN | apply below_drew1 | refine below_set ?_ (IsS31.ge HI249.out) | refine below_set ?_ GE262.out) | exact HB.out))
                  rintro e w40 ⟨rfl, hi, hb, hk⟩
                  refine ⟨_, rfl, ?_⟩
                  have n0_ := Aside0.mk (KeepBut.blk hk (g' := gb262) (o := .cells #[.int .u64 t255, .int .u64 t256, .int .u64 t257] 29 (0, 0)) (by (with_reducible repeat (first | refine blk_drewN ?_ _ | refine blk_drew ?_ | refine blk_alloc ?_ _)); exact BK262.out) NB262_249.out (by simp))
                  have n1_ := Aside0.mk (hb)
                  have n2_ := Aside0.mk (hi)
                  clear BK262
                  clear HB
                  clear HI249
                  have BK262 := n0_
                  have HB := n1_
                  have HI249 := n2_
                  clear n0_ n1_ n2_
                  (try clear hb)
                  (try clear hb2)
                  (try clear hk)
                  (try clear hi)
                  refine hK.out _ _ ⟨((HB.out.cell (World.block_lt_of_cell? w _ hw280_0)).trans hw280_0), ((HB.out.cell (World.block_lt_of_cell? w _ hw280_1)).trans hw280_1), ((HB.out.cell (World.block_lt_of_cell? w _ hw280_2)).trans hw280_2), ((HB.out.cell (World.block_lt_of_cell? w _ hw280_3)).trans hw280_3)⟩ (fun hHeld => ?_)
                  clear hK K
                  refine norm_ (a' := ?_) ?_ ?_
                  rotate_left
                  ·show Act.put _ (some 91) _ = _
                   act_go
                   rfl
                  pu_go HT_ 38 93 (b% 48 549755813887)
                  pu_go HT_ 39 94 (b% 48 1099511627775)
                  pu_go HT_ 40 95 (b% 48 2199023255551)
                  pu_go HT_ 41 96 (b% 48 4398046511103)
                  pu_go HT_ 44 99 (b% 48 21990232555519)
                  refine one_ (i := 42) (N := some 97) (b% 48 26388279066623) rfl rfl (one_of HT_.out (by kernel_rfl)) (by decide) (fun K hK => ?_)
                  refine goes_ Try.func10 (by kernel_rfl) rfl #[.pointer (some ⟨gb249, 0, none⟩)] (by rfl) rfl rfl ar% ?_
                  with_reducible refine (ballot_Acceptor_Last.calls gb249 t282 t283 t284 t285 t286 t287 t288 t289 t290 t291 t292 w _ ?side1 ?side2 A36.out).mono ?_
                  (case side1 => repeat (first | (with_reducible first | exact HI249.out | apply IsS31.alloc | apply IsS31.drewN | apply IsS31.drew | apply IsS31.set_0 | apply IsS31.set_1 | apply IsS31.set_2 | apply IsS31.set_3 | refine IsS31.far ?_ NB249_262.out _) | exact HI249.out))
                  (case side2 => repeat (first | (with_reducible first | exact HB.out | apply below_alloc | apply pw_below_drewN | apply below_drew1 | refine below_set ?_ (IsS31.ge HI249.out) | refine below_set ?_ GE262.out) | exact HB.out))
                  rintro e w41 ⟨rfl, hi, hb, hk⟩
                  refine ⟨_, rfl, ?_⟩
                  have n0_ := Aside0.mk (KeepBut.blk hk (g' := gb262) (o := .cells #[.int .u64 t255, .int .u64 t256, .int .u64 t257] 29 (0, 0)) (by (with_reducible repeat (first | refine blk_drewN ?_ _ | refine blk_drew ?_ | refine blk_alloc ?_ _)); exact BK262.out) NB262_249.out (by simp))
                  have n1_ := Aside0.mk (hb)
                  have n2_ := Aside0.mk (hi)
                  clear BK262
                  clear HB
                  clear HI249
                  have BK262 := n0_
                  have HB := n1_
                  have HI249 := n2_
                  clear n0_ n1_ n2_
                  (try clear hb)
                  (try clear hb2)
                  (try clear hk)
                  (try clear hi)
                  refine hK.out _ _ ⟨((HB.out.cell (World.block_lt_of_cell? w _ hw280_0)).trans hw280_0), ((HB.out.cell (World.block_lt_of_cell? w _ hw280_1)).trans hw280_1), ((HB.out.cell (World.block_lt_of_cell? w _ hw280_2)).trans hw280_2), ((HB.out.cell (World.block_lt_of_cell? w _ hw280_3)).trans hw280_3)⟩ (fun hHeld => ?_)
                  clear hK K
                  refine norm_ (a' := ?_) ?_ ?_
                  rotate_left
                  ·show Act.put _ (some 97) _ = _
                   act_go
                   rfl
                  pu_go HT_ 43 98 (b% 48 35184372088831)
                  refine one_ (i := 45) (N := some 100) (b% 48 70368744177663) rfl rfl (one_of HT_.out (by kernel_rfl)) (by decide) (fun K hK => ?_)
                  refine goes_ Try.func9 (by kernel_rfl) rfl #[.pointer (some ⟨gb249, 0, none⟩)] (by rfl) rfl rfl ar% ?_
                  with_reducible refine (ballot_Acceptor_Top.calls gb249 t289 t290 t291 t292 t293 t294 t295 t296 t297 w _ ?side1 ?side2 A37.out).mono ?_
                  (case side1 => repeat (first | (with_reducible first | exact HI249.out | apply IsS31.alloc | apply IsS31.drewN | apply IsS31.drew | apply IsS31.set_0 | apply IsS31.set_1 | apply IsS31.set_2 | apply IsS31.set_3 | refine IsS31.far ?_ NB249_262.out _) | exact HI249.out))
                  (case side2 => repeat (first | (with_reducible first | exact HB.out | apply below_alloc | apply pw_below_drewN | apply below_drew1 | refine below_set ?_ (IsS31.ge HI249.out) | refine below_set ?_ GE262.out) | exact HB.out))
                  rintro e w42 ⟨rfl, hi, hb, hk⟩
                  refine ⟨_, rfl, ?_⟩
                  have n0_ := Aside0.mk (KeepBut.blk hk (g' := gb262) (o := .cells #[.int .u64 t255, .int .u64 t256, .int .u64 t257] 29 (0, 0)) (by (with_reducible repeat (first | refine blk_drewN ?_ _ | refine blk_drew ?_ | refine blk_alloc ?_ _)); exact BK262.out) NB262_249.out (by simp))
                  have n1_ := Aside0.mk (hb)
                  have n2_ := Aside0.mk (hi)
                  clear BK262
                  clear HB
                  clear HI249
                  have BK262 := n0_
                  have HB := n1_
                  have HI249 := n2_
                  clear n0_ n1_ n2_
                  (try clear hb)
                  (try clear hb2)
                  (try clear hk)
                  (try clear hi)
                  refine hK.out _ _ ⟨((HB.out.cell (World.block_lt_of_cell? w _ hw280_0)).trans hw280_0), ((HB.out.cell (World.block_lt_of_cell? w _ hw280_1)).trans hw280_1), ((HB.out.cell (World.block_lt_of_cell? w _ hw280_2)).trans hw280_2), ((HB.out.cell (World.block_lt_of_cell? w _ hw280_3)).trans hw280_3)⟩ (fun hHeld => ?_)
                  clear hK K
                  refine norm_ (a' := ?_) ?_ ?_
                  rotate_left
                  ·show Act.put _ (some 100) _ = _
                   act_go
                   rfl
                  pu_go HT_ 46 101 (b% 48 140737488355327)
                  pu_go HT_ 47 102 (b% 48 281474976710655)
                  refine done_ (done_of HT_.out (by kernel_rfl)) ?_
                  try go_wp2
                  go_meet
                  case rel => exact ⟨_, (false), (t294), (t295), (t296), (t297), (by first | rfl | (simp; done) | (simp [*]; done)), H', ⟨by have := HJ1.out; have := HK2.out; have := HJ13.out; first | omega | exact Nat.le_refl _⟩, ⟨by (with_reducible repeat (first | refine blk_drewN ?_ _ | refine blk_drew ?_ | refine blk_alloc ?_ _)); exact BK262.out⟩, ⟨by repeat (first | (with_reducible first | exact HI249.out | apply IsS31.alloc | apply IsS31.drewN | apply IsS31.drew | apply IsS31.set_0 | apply IsS31.set_1 | apply IsS31.set_2 | apply IsS31.set_3 | refine IsS31.far ?_ NB249_262.out _) | exact HI249.out)⟩, ⟨by repeat (first | (with_reducible first | exact HB.out | apply below_alloc | apply pw_below_drewN | apply below_drew1 | refine below_set ?_ (IsS31.ge HI249.out) | refine below_set ?_ GE262.out) | exact HB.out)⟩⟩
               ·rw [if_neg c33] at H
                have c33b0 : (x7_13 == 0) = false := beq_eq_false_iff_ne.mpr c33
                have c33b1 : (x7_13 != 0) = true := bne_iff_ne.mpr c33
                replace H := Option.bind_eq_some_iff.mp H
                obtain ⟨⟨t298, t299, t300, t301, t302⟩, A430, H⟩ := H
                replace H : (if t298 = t250 then ((ballot_Acceptor_Last.f t299 t300 t301 t302).bind fun bt303 => (if (!(bt303.1 == t255) || ((!(bt303.2.1 == t256) || (!(bt303.2.2.1 == t257))))) = true then (none) else ((ballot_Acceptor_Top.f bt303.2.2.2.1 bt303.2.2.2.2.1 bt303.2.2.2.2.2.1 bt303.2.2.2.2.2.2).bind fun bt310 => (if bt310.1 < t250 then (none) else ((ballot_Acceptor_Last.f bt310.2.1 bt310.2.2.1 bt310.2.2.2.1 bt310.2.2.2.2).bind fun bt315 => ((ballot_Acceptor_Top.f bt315.2.2.2.1 bt315.2.2.2.2.1 bt315.2.2.2.2.2.1 bt315.2.2.2.2.2.2).bind fun bt322 => (if bt315.1 > bt322.1 then (none) else (conventiclelaw16_BallotTop.j3 kj13 l0 x4_2 x7_13 false bt322.2.1 bt322.2.2.1 bt322.2.2.2.1 bt322.2.2.2.2)))))))) else (none)) = some r := H
                have A43 := Aside0.mk A430
                clear A430
                by_cases c44 : t298 = t250
                ·rw [if_pos c44] at H
                 have c44b0 : (t298 == t250) = true := beq_iff_eq.mpr c44
                 have c44b1 : (t298 != t250) = false := bne_eq_false_iff_eq.mpr c44
                 clear c44
                 replace H := Option.bind_eq_some_iff.mp H
                 obtain ⟨⟨t303, t304, t305, t306, t307, t308, t309⟩, A450, H⟩ := H
                 replace H : (if (!(t303 == t255) || ((!(t304 == t256) || (!(t305 == t257))))) = true then (none) else ((ballot_Acceptor_Top.f t306 t307 t308 t309).bind fun bt310 => (if bt310.1 < t250 then (none) else ((ballot_Acceptor_Last.f bt310.2.1 bt310.2.2.1 bt310.2.2.2.1 bt310.2.2.2.2).bind fun bt315 => ((ballot_Acceptor_Top.f bt315.2.2.2.1 bt315.2.2.2.2.1 bt315.2.2.2.2.2.1 bt315.2.2.2.2.2.2).bind fun bt322 => (if bt315.1 > bt322.1 then (none) else (conventiclelaw16_BallotTop.j3 kj13 l0 x4_2 x7_13 false bt322.2.1 bt322.2.2.1 bt322.2.2.2.1 bt322.2.2.2.2))))))) = some r := H
                 have A45 := Aside0.mk A450
                 clear A450
                 by_cases c46 : (!(t303 == t255) || ((!(t304 == t256) || (!(t305 == t257))))) = true
                 ·rw [if_pos c46] at H
                  exact absurd H (by simp)
                 ·rw [if_neg c46] at H
                  have c46b0 : (!(t303 == t255) || ((!(t304 == t256) || (!(t305 == t257))))) = false := by simpa using c46
                  clear c46
                  replace H := Option.bind_eq_some_iff.mp H
                  obtain ⟨⟨t310, t311, t312, t313, t314⟩, A470, H⟩ := H
                  replace H : (if t310 < t250 then (none) else ((ballot_Acceptor_Last.f t311 t312 t313 t314).bind fun bt315 => ((ballot_Acceptor_Top.f bt315.2.2.2.1 bt315.2.2.2.2.1 bt315.2.2.2.2.2.1 bt315.2.2.2.2.2.2).bind fun bt322 => (if bt315.1 > bt322.1 then (none) else (conventiclelaw16_BallotTop.j3 kj13 l0 x4_2 x7_13 false bt322.2.1 bt322.2.2.1 bt322.2.2.2.1 bt322.2.2.2.2))))) = some r := H
                  have A47 := Aside0.mk A470
                  clear A470
                  by_cases c48 : t310 < t250
                  ·rw [if_pos c48] at H
                   exact absurd H (by simp)
                  ·rw [if_neg c48] at H
                   have c48b0 : decide (t310 < t250) = false := decide_eq_false c48
                   clear c48
                   replace H := Option.bind_eq_some_iff.mp H
                   obtain ⟨⟨t315, t316, t317, t318, t319, t320, t321⟩, A490, H⟩ := H
                   replace H : ((ballot_Acceptor_Top.f t318 t319 t320 t321).bind fun bt322 => (if t315 > bt322.1 then (none) else (conventiclelaw16_BallotTop.j3 kj13 l0 x4_2 x7_13 false bt322.2.1 bt322.2.2.1 bt322.2.2.2.1 bt322.2.2.2.2))) = some r := H
                   have A49 := Aside0.mk A490
                   clear A490
                   replace H := Option.bind_eq_some_iff.mp H
                   obtain ⟨⟨t322, t323, t324, t325, t326⟩, A500, H⟩ := H
                   replace H : (if t315 > t322 then (none) else (conventiclelaw16_BallotTop.j3 kj13 l0 x4_2 x7_13 false t323 t324 t325 t326)) = some r := H
                   have A50 := Aside0.mk A500
                   clear A500
                   by_cases c51 : t315 > t322
                   ·rw [if_pos c51] at H
                    exact absurd H (by simp)
                   ·rw [if_neg c51] at H
                    have c51b0 : decide (t322 < t315) = false := decide_eq_false c51
                    clear c51
                    have H' := Aside0.mk H
                    clear H
                    try go_wp2
                    have n0_ := Aside0.mk (blk_drew BK262.out)
                    have n1_ := Aside0.mk (IsS31.drew HI249.out)
                    have n2_ := Aside0.mk (below_drew1 HB.out)
                    clear BK262
                    clear HI249
                    clear HB
                    have BK262 := n0_
                    have HI249 := n1_
                    have HB := n2_
                    clear n0_ n1_ n2_
                    have p280 : 0 ≤ (x4_2 : Int) := of_decide_eq_true (by first | (with_reducible assumption) | assumption)
                    have q280 : x4_2 < (l0.length : Int) := of_decide_eq_true (by first | (with_reducible assumption) | assumption)
                    obtain ⟨ad280, e280, hx280_0, hx280_1, hx280_2, hx280_3⟩ := at_T36 HR0.out x4_2 p280 q280
                    have hw280_3 := hx280_3
                    have hw280_2 := hx280_2
                    have hw280_1 := hx280_1
                    have hw280_0 := hx280_0
                    obtain rfl : ad263 = ad280 := (by injection e280)
                    replace hx280_0 := (HB.out.cell (World.block_lt_of_cell? w _ hx280_0)).trans hx280_0
                    replace hx280_1 := (HB.out.cell (World.block_lt_of_cell? w _ hx280_1)).trans hx280_1
                    replace hx280_2 := (HB.out.cell (World.block_lt_of_cell? w _ hx280_2)).trans hx280_2
                    replace hx280_3 := (HB.out.cell (World.block_lt_of_cell? w _ hx280_3)).trans hx280_3
                    replace p280 := eq_true p280
                    replace q280 := eq_true q280
                    refine start_ (n := 48) (S := fun w' => w'.cell? ⟨gb262, 0, none⟩ = some (.int .u64 t255) ∧ w'.cell? ⟨gb262, 1, none⟩ = some (.int .u64 t256) ∧ w'.cell? ⟨gb262, 2, none⟩ = some (.int .u64 t257) ∧ w'.cell? (ad263.add ((x4_2).toNat * 4)) = some (.bool ((rd_T36 l0 x4_2).f0)) ∧ w'.cell? ⟨(ad263.add ((x4_2).toNat * 4)).block, (ad263.add ((x4_2).toNat * 4)).off + 1, none⟩ = some (.int .u64 ((rd_T36 l0 x4_2).f1)) ∧ w'.cell? ⟨(ad263.add ((x4_2).toNat * 4)).block, (ad263.add ((x4_2).toNat * 4)).off + 2, none⟩ = some (.int .u64 ((rd_T36 l0 x4_2).f2.f0)) ∧ w'.cell? ⟨(ad263.add ((x4_2).toNat * 4)).block, (ad263.add ((x4_2).toNat * 4)).off + 3, none⟩ = some (.int .u64 ((rd_T36 l0 x4_2).f2.f1))) (ds := []) (b% 48 0) (by kernel_rfl) rfl rfl ⟨(blk_cell BK262.out 0).trans rfl, (blk_cell BK262.out 1).trans rfl, (blk_cell BK262.out 2).trans rfl, ((HB.out.cell (World.block_lt_of_cell? w _ hw280_0)).trans hw280_0), ((HB.out.cell (World.block_lt_of_cell? w _ hw280_1)).trans hw280_1), ((HB.out.cell (World.block_lt_of_cell? w _ hw280_2)).trans hw280_2), ((HB.out.cell (World.block_lt_of_cell? w _ hw280_3)).trans hw280_3)⟩ (fun hHeld => ?_); refine with_tabW conventiclelaw16_BallotTop.tab13 conventiclelaw16_BallotTop.bits13 (fun HT_ HW_ => ?_)
                    generalize wc.drew = w52 at BK262 HI249 HB hx280_0 hx280_1 hx280_2 hx280_3 hHeld ⊢
                    pu_go HT_ 0 55 (b% 48 1)
                    pu_go HT_ 1 56 (b% 48 3)
                    pu_go HT_ 2 57 (b% 48 7)
                    pu_go HT_ 3 58 (b% 48 15)
                    pu_go HT_ 4 59 (b% 48 31)
                    pu_go HT_ 5 60 (b% 48 63)
                    refine take_ (i := 6) (N := some 61) (v := ?_) (a' := ?_) (b% 48 127) rfl rfl (take_ofW HT_.out HW_.out (by kernel_rfl)) (fun _ _ _ h => h) (Or.inl ⟨by rfl, ?_⟩) hHeld ?_ ?_
                    rotate_left
                    ·rintro w' ⟨s0, s1, s2, s3, s4, s5, s6⟩
                     go_simp
                     with_reducible rfl
                    rotate_left
                    ·act_go
                     rfl
                    pu_go HT_ 7 62 (b% 48 255)
                    pu_go HT_ 8 63 (b% 48 511)
                    refine pure_ (i := 9) (N := some 64) (v := undef) (a' := ?_) (b% 48 1023) rfl rfl (any_of HT_.out (by kernel_rfl)) (fun _ _ _ h => h) (Or.inr ⟨by rfl, rfl⟩) ?_ ?_
                    rotate_left
                    ·act_go
                     rfl
                    refine pure_ (i := 10) (N := some 65) (v := undef) (a' := ?_) (b% 48 2047) rfl rfl (any_of HT_.out (by kernel_rfl)) (fun _ _ _ h => h) (Or.inr ⟨by rfl, rfl⟩) ?_ ?_
                    rotate_left
                    ·act_go
                     rfl
                    refine pure_ (i := 11) (N := some 66) (v := undef) (a' := ?_) (b% 48 4095) rfl rfl (any_of HT_.out (by kernel_rfl)) (fun _ _ _ h => h) (Or.inr ⟨by rfl, rfl⟩) ?_ ?_
                    rotate_left
                    ·act_go
                     rfl
                    refine pure_ (i := 12) (N := some 67) (v := undef) (a' := ?_) (b% 48 8191) rfl rfl (any_of HT_.out (by kernel_rfl)) (fun _ _ _ h => h) (Or.inr ⟨by rfl, rfl⟩) ?_ ?_
                    rotate_left
                    ·act_go
                     rfl
                    refine pure_ (i := 13) (N := some 68) (v := undef) (a' := ?_) (b% 48 16383) rfl rfl (any_of HT_.out (by kernel_rfl)) (fun _ _ _ h => h) (Or.inr ⟨by rfl, rfl⟩) ?_ ?_
                    rotate_left
                    ·act_go
                     rfl
                    refine pure_ (i := 14) (N := some 69) (v := undef) (a' := ?_) (b% 48 32767) rfl rfl (any_of HT_.out (by kernel_rfl)) (fun _ _ _ h => h) (Or.inr ⟨by rfl, rfl⟩) ?_ ?_
                    rotate_left
                    ·act_go
                     rfl
                    refine pure_ (i := 15) (N := some 70) (v := undef) (a' := ?_) (b% 48 65535) rfl rfl (any_of HT_.out (by kernel_rfl)) (fun _ _ _ h => h) (Or.inr ⟨by rfl, rfl⟩) ?_ ?_
                    rotate_left
                    ·act_go
                     rfl
                    pu_go HT_ 16 71 (b% 48 131071)
                    pu_go HT_ 17 72 (b% 48 262143)
                    pu_go HT_ 18 73 (b% 48 524287)
                    pu_go HT_ 19 74 (b% 48 1048575)
                    pu_go HT_ 20 75 (b% 48 2097151)
                    pu_go HT_ 21 76 (b% 48 4194303)
                    pu_go HT_ 22 77 (b% 48 8388607)
                    pu_go HT_ 24 79 (b% 48 25165823)
                    refine one_ (i := 23) (N := some 78) (b% 48 33554431) rfl rfl (one_of HT_.out (by kernel_rfl)) (by decide) (fun K hK => ?_)
                    refine goes_ Try.func9 (by kernel_rfl) rfl #[.pointer (some ⟨gb249, 0, none⟩)] (by rfl) rfl rfl ar% ?_
                    with_reducible refine (ballot_Acceptor_Top.calls gb249 x250000_13 x250001_13 x250002_13 x250003_13 t298 t299 t300 t301 t302 w _ ?side1 ?side2 A43.out).mono ?_
                    (case side1 => repeat (first | (with_reducible first | exact HI249.out | apply IsS31.alloc | apply IsS31.drewN | apply IsS31.drew | apply IsS31.set_0 | apply IsS31.set_1 | apply IsS31.set_2 | apply IsS31.set_3 | refine IsS31.far ?_ NB249_262.out _) | exact HI249.out))
                    (case side2 => repeat (first | (with_reducible first | exact HB.out | apply below_alloc | apply pw_below_drewN | apply below_drew1 | refine below_set ?_ (IsS31.ge HI249.out) | refine below_set ?_ GE262.out) | exact HB.out))
                    rintro e w53 ⟨rfl, hi, hb, hk⟩
                    refine ⟨_, rfl, ?_⟩
                    have n0_ := Aside0.mk (KeepBut.blk hk (g' := gb262) (o := .cells #[.int .u64 t255, .int .u64 t256, .int .u64 t257] 29 (0, 0)) (by (with_reducible repeat (first | refine blk_drewN ?_ _ | refine blk_drew ?_ | refine blk_alloc ?_ _)); exact BK262.out) NB262_249.out (by simp))
                    have n1_ := Aside0.mk (hb)
                    have n2_ := Aside0.mk (hi)
                    clear BK262
                    clear HB
                    clear HI249
                    have BK262 := n0_
                    have HB := n1_
                    have HI249 := n2_
                    clear n0_ n1_ n2_
                    (try clear hb)
                    (try clear hb2)
                    (try clear hk)
                    (try clear hi)
                    refine hK.out _ _ ⟨(blk_cell BK262.out 0).trans rfl, (blk_cell BK262.out 1).trans rfl, (blk_cell BK262.out 2).trans rfl, ((HB.out.cell (World.block_lt_of_cell? w _ hw280_0)).trans hw280_0), ((HB.out.cell (World.block_lt_of_cell? w _ hw280_1)).trans hw280_1), ((HB.out.cell (World.block_lt_of_cell? w _ hw280_2)).trans hw280_2), ((HB.out.cell (World.block_lt_of_cell? w _ hw280_3)).trans hw280_3)⟩ (fun hHeld => ?_)
                    clear hK K
                    refine norm_ (a' := ?_) ?_ ?_
                    rotate_left
                    ·show Act.put _ (some 78) _ = _
                     act_go
                     rfl
                    pu_go HT_ 25 80 (b% 48 67108863)
                    pu_go HT_ 26 81 (b% 48 134217727)
                    pu_go HT_ 27 82 (b% 48 268435455)
                    refine take_ (i := 29) (N := some 84) (v := ?_) (a' := ?_) (b% 48 805306367) rfl rfl (take_ofW HT_.out HW_.out (by kernel_rfl)) (fun _ _ _ h => h) (Or.inl ⟨by rfl, ?_⟩) hHeld ?_ ?_
                    rotate_left
                    ·rintro w' ⟨s0, s1, s2, s3, s4, s5, s6⟩
                     go_simp
                     with_reducible rfl
                    rotate_left
                    ·act_go
                     rfl
                    refine one_ (i := 28) (N := some 83) (b% 48 1073741823) rfl rfl (one_of HT_.out (by kernel_rfl)) (by decide) (fun K hK => ?_)
                    refine goes_ Try.func10 (by kernel_rfl) rfl #[.pointer (some ⟨gb249, 0, none⟩)] (by rfl) rfl rfl ar% ?_
                    with_reducible refine (ballot_Acceptor_Last.calls gb249 t299 t300 t301 t302 t303 t304 t305 t306 t307 t308 t309 w _ ?side1 ?side2 A45.out).mono ?_
                    (case side1 => repeat (first | (with_reducible first | exact HI249.out | apply IsS31.alloc | apply IsS31.drewN | apply IsS31.drew | apply IsS31.set_0 | apply IsS31.set_1 | apply IsS31.set_2 | apply IsS31.set_3 | refine IsS31.far ?_ NB249_262.out _) | exact HI249.out))
                    (case side2 => repeat (first | (with_reducible first | exact HB.out | apply below_alloc | apply pw_below_drewN | apply below_drew1 | refine below_set ?_ (IsS31.ge HI249.out) | refine below_set ?_ GE262.out) | exact HB.out))
                    rintro e w54 ⟨rfl, hi, hb, hk⟩
                    refine ⟨_, rfl, ?_⟩
                    have n0_ := Aside0.mk (KeepBut.blk hk (g' := gb262) (o := .cells #[.int .u64 t255, .int .u64 t256, .int .u64 t257] 29 (0, 0)) (by (with_reducible repeat (first | refine blk_drewN ?_ _ | refine blk_drew ?_ | refine blk_alloc ?_ _)); exact BK262.out) NB262_249.out (by simp))
                    have n1_ := Aside0.mk (hb)
                    have n2_ := Aside0.mk (hi)
                    clear BK262
                    clear HB
                    clear HI249
                    have BK262 := n0_
                    have HB := n1_
                    have HI249 := n2_
                    clear n0_ n1_ n2_
                    (try clear hb)
                    (try clear hb2)
                    (try clear hk)
                    (try clear hi)
                    refine hK.out _ _ ⟨(blk_cell BK262.out 0).trans rfl, (blk_cell BK262.out 1).trans rfl, (blk_cell BK262.out 2).trans rfl, ((HB.out.cell (World.block_lt_of_cell? w _ hw280_0)).trans hw280_0), ((HB.out.cell (World.block_lt_of_cell? w _ hw280_1)).trans hw280_1), ((HB.out.cell (World.block_lt_of_cell? w _ hw280_2)).trans hw280_2), ((HB.out.cell (World.block_lt_of_cell? w _ hw280_3)).trans hw280_3)⟩ (fun hHeld => ?_)
                    clear hK K
                    refine norm_ (a' := ?_) ?_ ?_
                    rotate_left
                    ·show Act.put _ (some 83) _ = _
                     act_go
                     rfl
                    pu_go HT_ 30 85 (b% 48 2147483647)
                    pu_go HT_ 31 86 (b% 48 4294967295)
                    pu_go HT_ 32 87 (b% 48 8589934591)
                    pu_go HT_ 33 88 (b% 48 17179869183)
                    pu_go HT_ 34 89 (b% 48 34359738367)
                    pu_go HT_ 35 90 (b% 48 68719476735)
                    pu_go HT_ 37 92 (b% 48 206158430207)
                    refine one_ (i := 36) (N := some 91) (b% 48 274877906943) rfl rfl (one_of HT_.out (by kernel_rfl)) (by decide) (fun K hK => ?_)
                    refine goes_ Try.func9 (by kernel_rfl) rfl #[.pointer (some ⟨gb249, 0, none⟩)] (by rfl) rfl rfl ar% ?_
                    with_reducible refine (ballot_Acceptor_Top.calls gb249 t306 t307 t308 t309 t310 t311 t312 t313 t314 w _ ?side1 ?side2 A47.out).mono ?_
                    (case side1 => repeat (first | (with_reducible first | exact HI249.out | apply IsS31.alloc | apply IsS31.drewN | apply IsS31.drew | apply IsS31.set_0 | apply IsS31.set_1 | apply IsS31.set_2 | apply IsS31.set_3 | refine IsS31.far ?_ NB249_262.out _) | exact HI249.out))
                    (case side2 => repeat (first | (with_reducible first | exact HB.out | apply below_alloc | apply pw_below_drewN | apply below_drew1 | refine below_set ?_ (IsS31.ge HI249.out) | refine below_set ?_ GE262.out) | exact HB.out))
                    rintro e w55 ⟨rfl, hi, hb, hk⟩
                    refine ⟨_, rfl, ?_⟩
                    have n0_ := Aside0.mk (KeepBut.blk hk (g' := gb262) (o := .cells #[.int .u64 t255, .int .u64 t256, .int .u64 t257] 29 (0, 0)) (by (with_reducible repeat (first | refine blk_drewN ?_ _ | refine blk_drew ?_ | refine blk_alloc ?_ _)); exact BK262.out) NB262_249.out (by simp))
                    have n1_ := Aside0.mk (hb)
                    have n2_ := Aside0.mk (hi)
                    clear BK262
                    clear HB
                    clear HI249
                    have BK262 := n0_
                    have HB := n1_
                    have HI249 := n2_
                    clear n0_ n1_ n2_
                    (try clear hb)
                    (try clear hb2)
                    (try clear hk)
                    (try clear hi)
                    refine hK.out _ _ ⟨(blk_cell BK262.out 0).trans rfl, (blk_cell BK262.out 1).trans rfl, (blk_cell BK262.out 2).trans rfl, ((HB.out.cell (World.block_lt_of_cell? w _ hw280_0)).trans hw280_0), ((HB.out.cell (World.block_lt_of_cell? w _ hw280_1)).trans hw280_1), ((HB.out.cell (World.block_lt_of_cell? w _ hw280_2)).trans hw280_2), ((HB.out.cell (World.block_lt_of_cell? w _ hw280_3)).trans hw280_3)⟩ (fun hHeld => ?_)
                    clear hK K
                    refine norm_ (a' := ?_) ?_ ?_
                    rotate_left
                    ·show Act.put _ (some 91) _ = _
                     act_go
                     rfl
                    pu_go HT_ 38 93 (b% 48 549755813887)
                    pu_go HT_ 39 94 (b% 48 1099511627775)
                    pu_go HT_ 40 95 (b% 48 2199023255551)
                    pu_go HT_ 41 96 (b% 48 4398046511103)
                    pu_go HT_ 44 99 (b% 48 21990232555519)
                    refine one_ (i := 42) (N := some 97) (b% 48 26388279066623) rfl rfl (one_of HT_.out (by kernel_rfl)) (by decide) (fun K hK => ?_)
                    refine goes_ Try.func10 (by kernel_rfl) rfl #[.pointer (some ⟨gb249, 0, none⟩)] (by rfl) rfl rfl ar% ?_
                    with_reducible refine (ballot_Acceptor_Last.calls gb249 t311 t312 t313 t314 t315 t316 t317 t318 t319 t320 t321 w _ ?side1 ?side2 A49.out).mono ?_
                    (case side1 => repeat (first | (with_reducible first | exact HI249.out | apply IsS31.alloc | apply IsS31.drewN | apply IsS31.drew | apply IsS31.set_0 | apply IsS31.set_1 | apply IsS31.set_2 | apply IsS31.set_3 | refine IsS31.far ?_ NB249_262.out _) | exact HI249.out))
                    (case side2 => repeat (first | (with_reducible first | exact HB.out | apply below_alloc | apply pw_below_drewN | apply below_drew1 | refine below_set ?_ (IsS31.ge HI249.out) | refine below_set ?_ GE262.out) | exact HB.out))
                    rintro e w56 ⟨rfl, hi, hb, hk⟩
                    refine ⟨_, rfl, ?_⟩
                    have n0_ := Aside0.mk (KeepBut.blk hk (g' := gb262) (o := .cells #[.int .u64 t255, .int .u64 t256, .int .u64 t257] 29 (0, 0)) (by (with_reducible repeat (first | refine blk_drewN ?_ _ | refine blk_drew ?_ | refine blk_alloc ?_ _)); exact BK262.out) NB262_249.out (by simp))
                    have n1_ := Aside0.mk (hb)
                    have n2_ := Aside0.mk (hi)
                    clear BK262
                    clear HB
                    clear HI249
                    have BK262 := n0_
                    have HB := n1_
                    have HI249 := n2_
                    clear n0_ n1_ n2_
                    (try clear hb)
                    (try clear hb2)
                    (try clear hk)
                    (try clear hi)
                    refine hK.out _ _ ⟨(blk_cell BK262.out 0).trans rfl, (blk_cell BK262.out 1).trans rfl, (blk_cell BK262.out 2).trans rfl, ((HB.out.cell (World.block_lt_of_cell? w _ hw280_0)).trans hw280_0), ((HB.out.cell (World.block_lt_of_cell? w _ hw280_1)).trans hw280_1), ((HB.out.cell (World.block_lt_of_cell? w _ hw280_2)).trans hw280_2), ((HB.out.cell (World.block_lt_of_cell? w _ hw280_3)).trans hw280_3)⟩ (fun hHeld => ?_)
                    clear hK K
                    refine norm_ (a' := ?_) ?_ ?_
                    rotate_left
                    ·show Act.put _ (some 97) _ = _
                     act_go
                     rfl
                    pu_go HT_ 43 98 (b% 48 35184372088831)
                    refine one_ (i := 45) (N := some 100) (b% 48 70368744177663) rfl rfl (one_of HT_.out (by kernel_rfl)) (by decide) (fun K hK => ?_)
                    refine goes_ Try.func9 (by kernel_rfl) rfl #[.pointer (some ⟨gb249, 0, none⟩)] (by rfl) rfl rfl ar% ?_
                    with_reducible refine (ballot_Acceptor_Top.calls gb249 t318 t319 t320 t321 t322 t323 t324 t325 t326 w _ ?side1 ?side2 A50.out).mono ?_
                    (case side1 => repeat (first | (with_reducible first | exact HI249.out | apply IsS31.alloc | apply IsS31.drewN | apply IsS31.drew | apply IsS31.set_0 | apply IsS31.set_1 | apply IsS31.set_2 | apply IsS31.set_3 | refine IsS31.far ?_ NB249_262.out _) | exact HI249.out))
                    (case side2 => repeat (first | (with_reducible first | exact HB.out | apply below_alloc | apply pw_below_drewN | apply below_drew1 | refine below_set ?_ (IsS31.ge HI249.out) | refine below_set ?_ GE262.out) | exact HB.out))
                    rintro e w57 ⟨rfl, hi, hb, hk⟩
                    refine ⟨_, rfl, ?_⟩
                    have n0_ := Aside0.mk (KeepBut.blk hk (g' := gb262) (o := .cells #[.int .u64 t255, .int .u64 t256, .int .u64 t257] 29 (0, 0)) (by (with_reducible repeat (first | refine blk_drewN ?_ _ | refine blk_drew ?_ | refine blk_alloc ?_ _)); exact BK262.out) NB262_249.out (by simp))
                    have n1_ := Aside0.mk (hb)
                    have n2_ := Aside0.mk (hi)
                    clear BK262
                    clear HB
                    clear HI249
                    have BK262 := n0_
                    have HB := n1_
                    have HI249 := n2_
                    clear n0_ n1_ n2_
                    (try clear hb)
                    (try clear hb2)
                    (try clear hk)
                    (try clear hi)
                    refine hK.out _ _ ⟨(blk_cell BK262.out 0).trans rfl, (blk_cell BK262.out 1).trans rfl, (blk_cell BK262.out 2).trans rfl, ((HB.out.cell (World.block_lt_of_cell? w _ hw280_0)).trans hw280_0), ((HB.out.cell (World.block_lt_of_cell? w _ hw280_1)).trans hw280_1), ((HB.out.cell (World.block_lt_of_cell? w _ hw280_2)).trans hw280_2), ((HB.out.cell (World.block_lt_of_cell? w _ hw280_3)).trans hw280_3)⟩ (fun hHeld => ?_)
                    clear hK K
                    refine norm_ (a' := ?_) ?_ ?_
                    rotate_left
                    ·show Act.put _ (some 100) _ = _
                     act_go
                     rfl
                    pu_go HT_ 46 101 (b% 48 140737488355327)
                    pu_go HT_ 47 102 (b% 48 281474976710655)
                    refine done_ (done_of HT_.out (by kernel_rfl)) ?_
                    try go_wp2
                    go_meet
                    case rel => exact ⟨_, (false), (t323), (t324), (t325), (t326), (by first | rfl | (simp; done) | (simp [*]; done)), H', ⟨by have := HJ1.out; have := HK2.out; have := HJ13.out; first | omega | exact Nat.le_refl _⟩, ⟨by (with_reducible repeat (first | refine blk_drewN ?_ _ | refine blk_drew ?_ | refine blk_alloc ?_ _)); exact BK262.out⟩, ⟨by repeat (first | (with_reducible first | exact HI249.out | apply IsS31.alloc | apply IsS31.drewN | apply IsS31.drew | apply IsS31.set_0 | apply IsS31.set_1 | apply IsS31.set_2 | apply IsS31.set_3 | refine IsS31.far ?_ NB249_262.out _) | exact HI249.out)⟩, ⟨by repeat (first | (with_reducible first | exact HB.out | apply below_alloc | apply pw_below_drewN | apply below_drew1 | refine below_set ?_ (IsS31.ge HI249.out) | refine below_set ?_ GE262.out) | exact HB.out)⟩⟩
                ·rw [if_neg c44] at H
                 exact absurd H (by simp)
             ·rw [if_neg c31] at H
              have c31b0 : (((rd_T36 l0 x4_2).f1) == 0) = false := beq_eq_false_iff_ne.mpr c31
              have c31b1 : (((rd_T36 l0 x4_2).f1) != 0) = true := bne_iff_ne.mpr c31
              by_cases c58 : ((x7_13 == 0) != (decide (((rd_T36 l0 x4_2).f1) ≥ t250))) = true
              ·rw [if_pos c58] at H
               exact absurd H (by simp)
              ·rw [if_neg c58] at H
               have c58b0 : ((x7_13 == 0) != (decide (((rd_T36 l0 x4_2).f1) ≥ t250))) = false := by simpa using c58
               (try (have c58b1 : decide ((x7_13 == 0) = (decide (((rd_T36 l0 x4_2).f1) ≥ t250))) = true := by simpa using c58))
               (try (have c58b2 : ((x7_13 == 0) == (decide (((rd_T36 l0 x4_2).f1) ≥ t250))) = true := by simpa using c58))
               clear c58
               by_cases c59 : x7_13 = 0
               ·rw [if_pos c59] at H
                have c59b0 : (x7_13 == 0) = true := beq_iff_eq.mpr c59
                have c59b1 : (x7_13 != 0) = false := bne_eq_false_iff_eq.mpr c59
                clear c59
                have c59e : t250 ≤ ((rd_T36 l0 x4_2).f1) := by have h_ := c58b0; rw [c59b0] at h_; simpa using h_
                have c59f : ¬ ((rd_T36 l0 x4_2).f1) < t250 := by omega
                have c59g : decide (t250 ≤ ((rd_T36 l0 x4_2).f1)) = true := decide_eq_true c59e
                have c59h : decide (((rd_T36 l0 x4_2).f1) < t250) = false := decide_eq_false c59f
                replace H := Option.bind_eq_some_iff.mp H
                obtain ⟨⟨t328, t329, t330, t331, t332⟩, A600, H⟩ := H
                replace H : (if t328 < t250 then (none) else ((ballot_Acceptor_Last.f t329 t330 t331 t332).bind fun bt333 => ((ballot_Acceptor_Top.f bt333.2.2.2.1 bt333.2.2.2.2.1 bt333.2.2.2.2.2.1 bt333.2.2.2.2.2.2).bind fun bt340 => (if bt333.1 > bt340.1 then (none) else (conventiclelaw16_BallotTop.j3 kj13 l0 x4_2 x7_13 false bt340.2.1 bt340.2.2.1 bt340.2.2.2.1 bt340.2.2.2.2))))) = some r := H
                have A60 := Aside0.mk A600
                clear A600
                by_cases c61 : t328 < t250
                ·rw [if_pos c61] at H
                 exact absurd H (by simp)
                ·rw [if_neg c61] at H
                 have c61b0 : decide (t328 < t250) = false := decide_eq_false c61
                 clear c61
                 replace H := Option.bind_eq_some_iff.mp H
                 obtain ⟨⟨t333, t334, t335, t336, t337, t338, t339⟩, A620, H⟩ := H
                 replace H : ((ballot_Acceptor_Top.f t336 t337 t338 t339).bind fun bt340 => (if t333 > bt340.1 then (none) else (conventiclelaw16_BallotTop.j3 kj13 l0 x4_2 x7_13 false bt340.2.1 bt340.2.2.1 bt340.2.2.2.1 bt340.2.2.2.2))) = some r := H
                 have A62 := Aside0.mk A620
                 clear A620
                 replace H := Option.bind_eq_some_iff.mp H
                 obtain ⟨⟨t340, t341, t342, t343, t344⟩, A630, H⟩ := H
                 replace H : (if t333 > t340 then (none) else (conventiclelaw16_BallotTop.j3 kj13 l0 x4_2 x7_13 false t341 t342 t343 t344)) = some r := H
                 have A63 := Aside0.mk A630
                 clear A630
                 by_cases c64 : t333 > t340
                 ·rw [if_pos c64] at H
                  exact absurd H (by simp)
                 ·rw [if_neg c64] at H
                  have c64b0 : decide (t340 < t333) = false := decide_eq_false c64
                  clear c64
                  have H' := Aside0.mk H
                  clear H
                  try go_wp2
                  have n0_ := Aside0.mk (blk_drew BK262.out)
                  have n1_ := Aside0.mk (IsS31.drew HI249.out)
                  have n2_ := Aside0.mk (below_drew1 HB.out)
                  clear BK262
                  clear HI249
                  clear HB
                  have BK262 := n0_
                  have HI249 := n1_
                  have HB := n2_
                  clear n0_ n1_ n2_
                  have p280 : 0 ≤ (x4_2 : Int) := of_decide_eq_true (by first | (with_reducible assumption) | assumption)
                  have q280 : x4_2 < (l0.length : Int) := of_decide_eq_true (by first | (with_reducible assumption) | assumption)
                  obtain ⟨ad280, e280, hx280_0, hx280_1, hx280_2, hx280_3⟩ := at_T36 HR0.out x4_2 p280 q280
                  have hw280_3 := hx280_3
                  have hw280_2 := hx280_2
                  have hw280_1 := hx280_1
                  have hw280_0 := hx280_0
                  obtain rfl : ad263 = ad280 := (by injection e280)
                  replace hx280_0 := (HB.out.cell (World.block_lt_of_cell? w _ hx280_0)).trans hx280_0
                  replace hx280_1 := (HB.out.cell (World.block_lt_of_cell? w _ hx280_1)).trans hx280_1
                  replace hx280_2 := (HB.out.cell (World.block_lt_of_cell? w _ hx280_2)).trans hx280_2
                  replace hx280_3 := (HB.out.cell (World.block_lt_of_cell? w _ hx280_3)).trans hx280_3
                  replace p280 := eq_true p280
                  replace q280 := eq_true q280
                  have p327 : 0 ≤ (x4_2 : Int) := of_decide_eq_true (by first | (with_reducible assumption) | assumption)
                  have q327 : x4_2 < (l0.length : Int) := of_decide_eq_true (by first | (with_reducible assumption) | assumption)
                  obtain ⟨ad327, e327, hx327_0, hx327_1, hx327_2, hx327_3⟩ := at_T36 HR0.out x4_2 p327 q327
                  have hw327_3 := hx327_3
                  have hw327_2 := hx327_2
                  have hw327_1 := hx327_1
                  have hw327_0 := hx327_0
                  obtain rfl : ad263 = ad327 := (by injection e327)
                  replace hx327_0 := (HB.out.cell (World.block_lt_of_cell? w _ hx327_0)).trans hx327_0
                  replace hx327_1 := (HB.out.cell (World.block_lt_of_cell? w _ hx327_1)).trans hx327_1
                  replace hx327_2 := (HB.out.cell (World.block_lt_of_cell? w _ hx327_2)).trans hx327_2
                  replace hx327_3 := (HB.out.cell (World.block_lt_of_cell? w _ hx327_3)).trans hx327_3
                  replace p327 := eq_true p327
                  replace q327 := eq_true q327
                  refine start_ (n := 48) (S := fun w' => w'.cell? (ad263.add ((x4_2).toNat * 4)) = some (.bool ((rd_T36 l0 x4_2).f0)) ∧ w'.cell? ⟨(ad263.add ((x4_2).toNat * 4)).block, (ad263.add ((x4_2).toNat * 4)).off + 1, none⟩ = some (.int .u64 ((rd_T36 l0 x4_2).f1)) ∧ w'.cell? ⟨(ad263.add ((x4_2).toNat * 4)).block, (ad263.add ((x4_2).toNat * 4)).off + 2, none⟩ = some (.int .u64 ((rd_T36 l0 x4_2).f2.f0)) ∧ w'.cell? ⟨(ad263.add ((x4_2).toNat * 4)).block, (ad263.add ((x4_2).toNat * 4)).off + 3, none⟩ = some (.int .u64 ((rd_T36 l0 x4_2).f2.f1)) ∧ w'.cell? (ad263.add ((x4_2).toNat * 4)) = some (.bool ((rd_T36 l0 x4_2).f0)) ∧ w'.cell? ⟨(ad263.add ((x4_2).toNat * 4)).block, (ad263.add ((x4_2).toNat * 4)).off + 1, none⟩ = some (.int .u64 ((rd_T36 l0 x4_2).f1)) ∧ w'.cell? ⟨(ad263.add ((x4_2).toNat * 4)).block, (ad263.add ((x4_2).toNat * 4)).off + 2, none⟩ = some (.int .u64 ((rd_T36 l0 x4_2).f2.f0)) ∧ w'.cell? ⟨(ad263.add ((x4_2).toNat * 4)).block, (ad263.add ((x4_2).toNat * 4)).off + 3, none⟩ = some (.int .u64 ((rd_T36 l0 x4_2).f2.f1))) (ds := []) (b% 48 0) (by kernel_rfl) rfl rfl ⟨((HB.out.cell (World.block_lt_of_cell? w _ hw280_0)).trans hw280_0), ((HB.out.cell (World.block_lt_of_cell? w _ hw280_1)).trans hw280_1), ((HB.out.cell (World.block_lt_of_cell? w _ hw280_2)).trans hw280_2), ((HB.out.cell (World.block_lt_of_cell? w _ hw280_3)).trans hw280_3), ((HB.out.cell (World.block_lt_of_cell? w _ hw327_0)).trans hw327_0), ((HB.out.cell (World.block_lt_of_cell? w _ hw327_1)).trans hw327_1), ((HB.out.cell (World.block_lt_of_cell? w _ hw327_2)).trans hw327_2), ((HB.out.cell (World.block_lt_of_cell? w _ hw327_3)).trans hw327_3)⟩ (fun hHeld => ?_); refine with_tabW conventiclelaw16_BallotTop.tab13 conventiclelaw16_BallotTop.bits13 (fun HT_ HW_ => ?_)
                  generalize wc.drew = w65 at BK262 HI249 HB hx280_0 hx280_1 hx280_2 hx280_3 hx327_0 hx327_1 hx327_2 hx327_3 hHeld ⊢
                  pu_go HT_ 0 55 (b% 48 1)
                  pu_go HT_ 1 56 (b% 48 3)
                  pu_go HT_ 2 57 (b% 48 7)
                  pu_go HT_ 3 58 (b% 48 15)
                  pu_go HT_ 4 59 (b% 48 31)
                  pu_go HT_ 5 60 (b% 48 63)
                  refine take_ (i := 6) (N := some 61) (v := ?_) (a' := ?_) (b% 48 127) rfl rfl (take_ofW HT_.out HW_.out (by kernel_rfl)) (fun _ _ _ h => h) (Or.inl ⟨by rfl, ?_⟩) hHeld ?_ ?_
                  rotate_left
                  ·rintro w' ⟨s0, s1, s2, s3, s4, s5, s6, s7⟩
                   go_simp
                   with_reducible rfl
                  rotate_left
                  ·act_go
                   rfl
                  pu_go HT_ 7 62 (b% 48 255)
                  pu_go HT_ 8 63 (b% 48 511)
                  pu_go HT_ 9 64 (b% 48 1023)
                  pu_go HT_ 10 65 (b% 48 2047)
                  pu_go HT_ 11 66 (b% 48 4095)
                  pu_go HT_ 12 67 (b% 48 8191)
                  pu_go HT_ 14 69 (b% 48 24575)
                  refine take_ (i := 13) (N := some 68) (v := ?_) (a' := ?_) (b% 48 32767) rfl rfl (take_ofW HT_.out HW_.out (by kernel_rfl)) (fun _ _ _ h => h) (Or.inl ⟨by rfl, ?_⟩) hHeld ?_ ?_
                  rotate_left
                  ·rintro w' ⟨s0, s1, s2, s3, s4, s5, s6, s7⟩
                   go_simp
                   with_reducible rfl
                  rotate_left
                  ·act_go
                   rfl
                  pu_go HT_ 15 70 (b% 48 65535)
                  pu_go HT_ 16 71 (b% 48 131071)
                  pu_go HT_ 17 72 (b% 48 262143)
                  pu_go HT_ 18 73 (b% 48 524287)
                  pu_go HT_ 19 74 (b% 48 1048575)
                  pu_go HT_ 20 75 (b% 48 2097151)
                  pu_go HT_ 21 76 (b% 48 4194303)
                  refine pure_ (i := 22) (N := some 77) (v := undef) (a' := ?_) (b% 48 8388607) rfl rfl (any_of HT_.out (by kernel_rfl)) (fun _ _ _ h => h) (Or.inr ⟨by rfl, rfl⟩) ?_ ?_
                  rotate_left
                  ·act_go
                   rfl
                  refine pure_ (i := 23) (N := some 78) (v := undef) (a' := ?_) (b% 48 16777215) rfl rfl (any_of HT_.out (by kernel_rfl)) (fun _ _ _ h => h) (Or.inr ⟨by rfl, rfl⟩) ?_ ?_
                  rotate_left
                  ·act_go
                   rfl
                  refine pure_ (i := 24) (N := some 79) (v := undef) (a' := ?_) (b% 48 33554431) rfl rfl (any_of HT_.out (by kernel_rfl)) (fun _ _ _ h => h) (Or.inr ⟨by rfl, rfl⟩) ?_ ?_
                  rotate_left
                  ·act_go
                   rfl
                  refine pure_ (i := 25) (N := some 80) (v := undef) (a' := ?_) (b% 48 67108863) rfl rfl (any_of HT_.out (by kernel_rfl)) (fun _ _ _ h => h) (Or.inr ⟨by rfl, rfl⟩) ?_ ?_
                  rotate_left
                  ·act_go
                   rfl
                  refine pure_ (i := 26) (N := some 81) (v := undef) (a' := ?_) (b% 48 134217727) rfl rfl (any_of HT_.out (by kernel_rfl)) (fun _ _ _ h => h) (Or.inr ⟨by rfl, rfl⟩) ?_ ?_
                  rotate_left
                  ·act_go
                   rfl
                  refine pure_ (i := 27) (N := some 82) (v := undef) (a' := ?_) (b% 48 268435455) rfl rfl (any_of HT_.out (by kernel_rfl)) (fun _ _ _ h => h) (Or.inr ⟨by rfl, rfl⟩) ?_ ?_
                  rotate_left
                  ·act_go
                   rfl
                  refine pure_ (i := 28) (N := some 83) (v := undef) (a' := ?_) (b% 48 536870911) rfl rfl (any_of HT_.out (by kernel_rfl)) (fun _ _ _ h => h) (Or.inr ⟨by rfl, rfl⟩) ?_ ?_
                  rotate_left
                  ·act_go
                   rfl
                  refine pure_ (i := 29) (N := some 84) (v := undef) (a' := ?_) (b% 48 1073741823) rfl rfl (any_of HT_.out (by kernel_rfl)) (fun _ _ _ h => h) (Or.inr ⟨by rfl, rfl⟩) ?_ ?_
                  rotate_left
                  ·act_go
                   rfl
                  refine pure_ (i := 30) (N := some 85) (v := undef) (a' := ?_) (b% 48 2147483647) rfl rfl (any_of HT_.out (by kernel_rfl)) (fun _ _ _ h => h) (Or.inr ⟨by rfl, rfl⟩) ?_ ?_
                  rotate_left
                  ·act_go
                   rfl
                  refine pure_ (i := 31) (N := some 86) (v := undef) (a' := ?_) (b% 48 4294967295) rfl rfl (any_of HT_.out (by kernel_rfl)) (fun _ _ _ h => h) (Or.inr ⟨by rfl, rfl⟩) ?_ ?_
                  rotate_left
                  ·act_go
                   rfl
                  pu_go HT_ 32 87 (b% 48 8589934591)
                  pu_go HT_ 33 88 (b% 48 17179869183)
                  pu_go HT_ 34 89 (b% 48 34359738367)
                  pu_go HT_ 35 90 (b% 48 68719476735)
                  pu_go HT_ 37 92 (b% 48 206158430207)
                  refine one_ (i := 36) (N := some 91) (b% 48 274877906943) rfl rfl (one_of HT_.out (by kernel_rfl)) (by decide) (fun K hK => ?_)
                  refine goes_ Try.func9 (by kernel_rfl) rfl #[.pointer (some ⟨gb249, 0, none⟩)] (by rfl) rfl rfl ar% ?_
                  with_reducible refine (ballot_Acceptor_Top.calls gb249 x250000_13 x250001_13 x250002_13 x250003_13 t328 t329 t330 t331 t332 w _ ?side1 ?side2 A60.out).mono ?_
                  (case side1 => repeat (first | (with_reducible first | exact HI249.out | apply IsS31.alloc | apply IsS31.drewN | apply IsS31.drew | apply IsS31.set_0 | apply IsS31.set_1 | apply IsS31.set_2 | apply IsS31.set_3 | refine IsS31.far ?_ NB249_262.out _) | exact HI249.out))
                  (case side2 => repeat (first | (with_reducible first | exact HB.out | apply below_alloc | apply pw_below_drewN | apply below_drew1 | refine below_set ?_ (IsS31.ge HI249.out) | refine below_set ?_ GE262.out) | exact HB.out))
                  rintro e w66 ⟨rfl, hi, hb, hk⟩
                  refine ⟨_, rfl, ?_⟩
                  have n0_ := Aside0.mk (KeepBut.blk hk (g' := gb262) (o := .cells #[.int .u64 t255, .int .u64 t256, .int .u64 t257] 29 (0, 0)) (by (with_reducible repeat (first | refine blk_drewN ?_ _ | refine blk_drew ?_ | refine blk_alloc ?_ _)); exact BK262.out) NB262_249.out (by simp))
                  have n1_ := Aside0.mk (hb)
                  have n2_ := Aside0.mk (hi)
                  clear BK262
                  clear HB
                  clear HI249
                  have BK262 := n0_
                  have HB := n1_
                  have HI249 := n2_
                  clear n0_ n1_ n2_
                  (try clear hb)
                  (try clear hb2)
                  (try clear hk)
                  (try clear hi)
                  refine hK.out _ _ ⟨((HB.out.cell (World.block_lt_of_cell? w _ hw280_0)).trans hw280_0), ((HB.out.cell (World.block_lt_of_cell? w _ hw280_1)).trans hw280_1), ((HB.out.cell (World.block_lt_of_cell? w _ hw280_2)).trans hw280_2), ((HB.out.cell (World.block_lt_of_cell? w _ hw280_3)).trans hw280_3), ((HB.out.cell (World.block_lt_of_cell? w _ hw327_0)).trans hw327_0), ((HB.out.cell (World.block_lt_of_cell? w _ hw327_1)).trans hw327_1), ((HB.out.cell (World.block_lt_of_cell? w _ hw327_2)).trans hw327_2), ((HB.out.cell (World.block_lt_of_cell? w _ hw327_3)).trans hw327_3)⟩ (fun hHeld => ?_)
                  clear hK K
                  refine norm_ (a' := ?_) ?_ ?_
                  rotate_left
                  ·show Act.put _ (some 91) _ = _
                   act_go
                   rfl
                  pu_go HT_ 38 93 (b% 48 549755813887)
                  pu_go HT_ 39 94 (b% 48 1099511627775)
                  pu_go HT_ 40 95 (b% 48 2199023255551)
                  pu_go HT_ 41 96 (b% 48 4398046511103)
                  pu_go HT_ 44 99 (b% 48 21990232555519)
                  refine one_ (i := 42) (N := some 97) (b% 48 26388279066623) rfl rfl (one_of HT_.out (by kernel_rfl)) (by decide) (fun K hK => ?_)
                  refine goes_ Try.func10 (by kernel_rfl) rfl #[.pointer (some ⟨gb249, 0, none⟩)] (by rfl) rfl rfl ar% ?_
                  with_reducible refine (ballot_Acceptor_Last.calls gb249 t329 t330 t331 t332 t333 t334 t335 t336 t337 t338 t339 w _ ?side1 ?side2 A62.out).mono ?_
                  (case side1 => repeat (first | (with_reducible first | exact HI249.out | apply IsS31.alloc | apply IsS31.drewN | apply IsS31.drew | apply IsS31.set_0 | apply IsS31.set_1 | apply IsS31.set_2 | apply IsS31.set_3 | refine IsS31.far ?_ NB249_262.out _) | exact HI249.out))
                  (case side2 => repeat (first | (with_reducible first | exact HB.out | apply below_alloc | apply pw_below_drewN | apply below_drew1 | refine below_set ?_ (IsS31.ge HI249.out) | refine below_set ?_ GE262.out) | exact HB.out))
                  rintro e w67 ⟨rfl, hi, hb, hk⟩
                  refine ⟨_, rfl, ?_⟩
                  have n0_ := Aside0.mk (KeepBut.blk hk (g' := gb262) (o := .cells #[.int .u64 t255, .int .u64 t256, .int .u64 t257] 29 (0, 0)) (by (with_reducible repeat (first | refine blk_drewN ?_ _ | refine blk_drew ?_ | refine blk_alloc ?_ _)); exact BK262.out) NB262_249.out (by simp))
                  have n1_ := Aside0.mk (hb)
                  have n2_ := Aside0.mk (hi)
                  clear BK262
                  clear HB
                  clear HI249
                  have BK262 := n0_
                  have HB := n1_
                  have HI249 := n2_
                  clear n0_ n1_ n2_
                  (try clear hb)
                  (try clear hb2)
                  (try clear hk)
                  (try clear hi)
                  refine hK.out _ _ ⟨((HB.out.cell (World.block_lt_of_cell? w _ hw280_0)).trans hw280_0), ((HB.out.cell (World.block_lt_of_cell? w _ hw280_1)).trans hw280_1), ((HB.out.cell (World.block_lt_of_cell? w _ hw280_2)).trans hw280_2), ((HB.out.cell (World.block_lt_of_cell? w _ hw280_3)).trans hw280_3), ((HB.out.cell (World.block_lt_of_cell? w _ hw327_0)).trans hw327_0), ((HB.out.cell (World.block_lt_of_cell? w _ hw327_1)).trans hw327_1), ((HB.out.cell (World.block_lt_of_cell? w _ hw327_2)).trans hw327_2), ((HB.out.cell (World.block_lt_of_cell? w _ hw327_3)).trans hw327_3)⟩ (fun hHeld => ?_)
                  clear hK K
                  refine norm_ (a' := ?_) ?_ ?_
                  rotate_left
                  ·show Act.put _ (some 97) _ = _
                   act_go
                   rfl
                  pu_go HT_ 43 98 (b% 48 35184372088831)
                  refine one_ (i := 45) (N := some 100) (b% 48 70368744177663) rfl rfl (one_of HT_.out (by kernel_rfl)) (by decide) (fun K hK => ?_)
                  refine goes_ Try.func9 (by kernel_rfl) rfl #[.pointer (some ⟨gb249, 0, none⟩)] (by rfl) rfl rfl ar% ?_
                  with_reducible refine (ballot_Acceptor_Top.calls gb249 t336 t337 t338 t339 t340 t341 t342 t343 t344 w _ ?side1 ?side2 A63.out).mono ?_
                  (case side1 => repeat (first | (with_reducible first | exact HI249.out | apply IsS31.alloc | apply IsS31.drewN | apply IsS31.drew | apply IsS31.set_0 | apply IsS31.set_1 | apply IsS31.set_2 | apply IsS31.set_3 | refine IsS31.far ?_ NB249_262.out _) | exact HI249.out))
                  (case side2 => repeat (first | (with_reducible first | exact HB.out | apply below_alloc | apply pw_below_drewN | apply below_drew1 | refine below_set ?_ (IsS31.ge HI249.out) | refine below_set ?_ GE262.out) | exact HB.out))
                  rintro e w68 ⟨rfl, hi, hb, hk⟩
                  refine ⟨_, rfl, ?_⟩
                  have n0_ := Aside0.mk (KeepBut.blk hk (g' := gb262) (o := .cells #[.int .u64 t255, .int .u64 t256, .int .u64 t257] 29 (0, 0)) (by (with_reducible repeat (first | refine blk_drewN ?_ _ | refine blk_drew ?_ | refine blk_alloc ?_ _)); exact BK262.out) NB262_249.out (by simp))
                  have n1_ := Aside0.mk (hb)
                  have n2_ := Aside0.mk (hi)
                  clear BK262
                  clear HB
                  clear HI249
                  have BK262 := n0_
                  have HB := n1_
                  have HI249 := n2_
                  clear n0_ n1_ n2_
                  (try clear hb)
                  (try clear hb2)
                  (try clear hk)
                  (try clear hi)
                  refine hK.out _ _ ⟨((HB.out.cell (World.block_lt_of_cell? w _ hw280_0)).trans hw280_0), ((HB.out.cell (World.block_lt_of_cell? w _ hw280_1)).trans hw280_1), ((HB.out.cell (World.block_lt_of_cell? w _ hw280_2)).trans hw280_2), ((HB.out.cell (World.block_lt_of_cell? w _ hw280_3)).trans hw280_3), ((HB.out.cell (World.block_lt_of_cell? w _ hw327_0)).trans hw327_0), ((HB.out.cell (World.block_lt_of_cell? w _ hw327_1)).trans hw327_1), ((HB.out.cell (World.block_lt_of_cell? w _ hw327_2)).trans hw327_2), ((HB.out.cell (World.block_lt_of_cell? w _ hw327_3)).trans hw327_3)⟩ (fun hHeld => ?_)
                  clear hK K
                  refine norm_ (a' := ?_) ?_ ?_
                  rotate_left
                  ·show Act.put _ (some 100) _ = _
                   act_go
                   rfl
                  pu_go HT_ 46 101 (b% 48 140737488355327)
                  pu_go HT_ 47 102 (b% 48 281474976710655)
                  refine done_ (done_of HT_.out (by kernel_rfl)) ?_
                  try go_wp2
                  go_meet
                  case rel => exact ⟨_, (false), (t341), (t342), (t343), (t344), (by first | rfl | (simp; done) | (simp [*]; done)), H', ⟨by have := HJ1.out; have := HK2.out; have := HJ13.out; first | omega | exact Nat.le_refl _⟩, ⟨by (with_reducible repeat (first | refine blk_drewN ?_ _ | refine blk_drew ?_ | refine blk_alloc ?_ _)); exact BK262.out⟩, ⟨by repeat (first | (with_reducible first | exact HI249.out | apply IsS31.alloc | apply IsS31.drewN | apply IsS31.drew | apply IsS31.set_0 | apply IsS31.set_1 | apply IsS31.set_2 | apply IsS31.set_3 | refine IsS31.far ?_ NB249_262.out _) | exact HI249.out)⟩, ⟨by repeat (first | (with_reducible first | exact HB.out | apply below_alloc | apply pw_below_drewN | apply below_drew1 | refine below_set ?_ (IsS31.ge HI249.out) | refine below_set ?_ GE262.out) | exact HB.out)⟩⟩
               ·rw [if_neg c59] at H
                have c59b0 : (x7_13 == 0) = false := beq_eq_false_iff_ne.mpr c59
                have c59b1 : (x7_13 != 0) = true := bne_iff_ne.mpr c59
                have c59e : ((rd_T36 l0 x4_2).f1) < t250 := by have h_ := c58b0; rw [c59b0] at h_; simpa using h_
                have c59f : ¬ t250 ≤ ((rd_T36 l0 x4_2).f1) := by omega
                have c59g : decide (((rd_T36 l0 x4_2).f1) < t250) = true := decide_eq_true c59e
                have c59h : decide (t250 ≤ ((rd_T36 l0 x4_2).f1)) = false := decide_eq_false c59f
                replace H := Option.bind_eq_some_iff.mp H
                obtain ⟨⟨t345, t346, t347, t348, t349⟩, A690, H⟩ := H
                replace H : (if t345 = t250 then ((ballot_Acceptor_Last.f t346 t347 t348 t349).bind fun bt350 => (if (!(bt350.1 == t255) || ((!(bt350.2.1 == t256) || (!(bt350.2.2.1 == t257))))) = true then (none) else ((ballot_Acceptor_Top.f bt350.2.2.2.1 bt350.2.2.2.2.1 bt350.2.2.2.2.2.1 bt350.2.2.2.2.2.2).bind fun bt357 => (if bt357.1 < t250 then (none) else ((ballot_Acceptor_Last.f bt357.2.1 bt357.2.2.1 bt357.2.2.2.1 bt357.2.2.2.2).bind fun bt362 => ((ballot_Acceptor_Top.f bt362.2.2.2.1 bt362.2.2.2.2.1 bt362.2.2.2.2.2.1 bt362.2.2.2.2.2.2).bind fun bt369 => (if bt362.1 > bt369.1 then (none) else (conventiclelaw16_BallotTop.j3 kj13 l0 x4_2 x7_13 false bt369.2.1 bt369.2.2.1 bt369.2.2.2.1 bt369.2.2.2.2)))))))) else (none)) = some r := H
                have A69 := Aside0.mk A690
                clear A690
                by_cases c70 : t345 = t250
                ·rw [if_pos c70] at H
                 have c70b0 : (t345 == t250) = true := beq_iff_eq.mpr c70
                 have c70b1 : (t345 != t250) = false := bne_eq_false_iff_eq.mpr c70
                 clear c70
                 replace H := Option.bind_eq_some_iff.mp H
                 obtain ⟨⟨t350, t351, t352, t353, t354, t355, t356⟩, A710, H⟩ := H
                 replace H : (if (!(t350 == t255) || ((!(t351 == t256) || (!(t352 == t257))))) = true then (none) else ((ballot_Acceptor_Top.f t353 t354 t355 t356).bind fun bt357 => (if bt357.1 < t250 then (none) else ((ballot_Acceptor_Last.f bt357.2.1 bt357.2.2.1 bt357.2.2.2.1 bt357.2.2.2.2).bind fun bt362 => ((ballot_Acceptor_Top.f bt362.2.2.2.1 bt362.2.2.2.2.1 bt362.2.2.2.2.2.1 bt362.2.2.2.2.2.2).bind fun bt369 => (if bt362.1 > bt369.1 then (none) else (conventiclelaw16_BallotTop.j3 kj13 l0 x4_2 x7_13 false bt369.2.1 bt369.2.2.1 bt369.2.2.2.1 bt369.2.2.2.2))))))) = some r := H
                 have A71 := Aside0.mk A710
                 clear A710
                 by_cases c72 : (!(t350 == t255) || ((!(t351 == t256) || (!(t352 == t257))))) = true
                 ·rw [if_pos c72] at H
                  exact absurd H (by simp)
                 ·rw [if_neg c72] at H
                  have c72b0 : (!(t350 == t255) || ((!(t351 == t256) || (!(t352 == t257))))) = false := by simpa using c72
                  clear c72
                  replace H := Option.bind_eq_some_iff.mp H
                  obtain ⟨⟨t357, t358, t359, t360, t361⟩, A730, H⟩ := H
                  replace H : (if t357 < t250 then (none) else ((ballot_Acceptor_Last.f t358 t359 t360 t361).bind fun bt362 => ((ballot_Acceptor_Top.f bt362.2.2.2.1 bt362.2.2.2.2.1 bt362.2.2.2.2.2.1 bt362.2.2.2.2.2.2).bind fun bt369 => (if bt362.1 > bt369.1 then (none) else (conventiclelaw16_BallotTop.j3 kj13 l0 x4_2 x7_13 false bt369.2.1 bt369.2.2.1 bt369.2.2.2.1 bt369.2.2.2.2))))) = some r := H
                  have A73 := Aside0.mk A730
                  clear A730
                  by_cases c74 : t357 < t250
                  ·rw [if_pos c74] at H
                   exact absurd H (by simp)
                  ·rw [if_neg c74] at H
                   have c74b0 : decide (t357 < t250) = false := decide_eq_false c74
                   clear c74
                   replace H := Option.bind_eq_some_iff.mp H
                   obtain ⟨⟨t362, t363, t364, t365, t366, t367, t368⟩, A750, H⟩ := H
                   replace H : ((ballot_Acceptor_Top.f t365 t366 t367 t368).bind fun bt369 => (if t362 > bt369.1 then (none) else (conventiclelaw16_BallotTop.j3 kj13 l0 x4_2 x7_13 false bt369.2.1 bt369.2.2.1 bt369.2.2.2.1 bt369.2.2.2.2))) = some r := H
                   have A75 := Aside0.mk A750
                   clear A750
                   replace H := Option.bind_eq_some_iff.mp H
                   obtain ⟨⟨t369, t370, t371, t372, t373⟩, A760, H⟩ := H
                   replace H : (if t362 > t369 then (none) else (conventiclelaw16_BallotTop.j3 kj13 l0 x4_2 x7_13 false t370 t371 t372 t373)) = some r := H
                   have A76 := Aside0.mk A760
                   clear A760
                   by_cases c77 : t362 > t369
                   ·rw [if_pos c77] at H
                    exact absurd H (by simp)
                   ·rw [if_neg c77] at H
                    have c77b0 : decide (t369 < t362) = false := decide_eq_false c77
                    clear c77
                    have H' := Aside0.mk H
                    clear H
                    try go_wp2
                    have n0_ := Aside0.mk (blk_drew BK262.out)
                    have n1_ := Aside0.mk (IsS31.drew HI249.out)
                    have n2_ := Aside0.mk (below_drew1 HB.out)
                    clear BK262
                    clear HI249
                    clear HB
                    have BK262 := n0_
                    have HI249 := n1_
                    have HB := n2_
                    clear n0_ n1_ n2_
                    have p280 : 0 ≤ (x4_2 : Int) := of_decide_eq_true (by first | (with_reducible assumption) | assumption)
                    have q280 : x4_2 < (l0.length : Int) := of_decide_eq_true (by first | (with_reducible assumption) | assumption)
                    obtain ⟨ad280, e280, hx280_0, hx280_1, hx280_2, hx280_3⟩ := at_T36 HR0.out x4_2 p280 q280
                    have hw280_3 := hx280_3
                    have hw280_2 := hx280_2
                    have hw280_1 := hx280_1
                    have hw280_0 := hx280_0
                    obtain rfl : ad263 = ad280 := (by injection e280)
                    replace hx280_0 := (HB.out.cell (World.block_lt_of_cell? w _ hx280_0)).trans hx280_0
                    replace hx280_1 := (HB.out.cell (World.block_lt_of_cell? w _ hx280_1)).trans hx280_1
                    replace hx280_2 := (HB.out.cell (World.block_lt_of_cell? w _ hx280_2)).trans hx280_2
                    replace hx280_3 := (HB.out.cell (World.block_lt_of_cell? w _ hx280_3)).trans hx280_3
                    replace p280 := eq_true p280
                    replace q280 := eq_true q280
                    have p327 : 0 ≤ (x4_2 : Int) := of_decide_eq_true (by first | (with_reducible assumption) | assumption)
                    have q327 : x4_2 < (l0.length : Int) := of_decide_eq_true (by first | (with_reducible assumption) | assumption)
                    obtain ⟨ad327, e327, hx327_0, hx327_1, hx327_2, hx327_3⟩ := at_T36 HR0.out x4_2 p327 q327
                    have hw327_3 := hx327_3
                    have hw327_2 := hx327_2
                    have hw327_1 := hx327_1
                    have hw327_0 := hx327_0
                    obtain rfl : ad263 = ad327 := (by injection e327)
                    replace hx327_0 := (HB.out.cell (World.block_lt_of_cell? w _ hx327_0)).trans hx327_0
                    replace hx327_1 := (HB.out.cell (World.block_lt_of_cell? w _ hx327_1)).trans hx327_1
                    replace hx327_2 := (HB.out.cell (World.block_lt_of_cell? w _ hx327_2)).trans hx327_2
                    replace hx327_3 := (HB.out.cell (World.block_lt_of_cell? w _ hx327_3)).trans hx327_3
                    replace p327 := eq_true p327
                    replace q327 := eq_true q327
                    refine start_ (n := 48) (S := fun w' => w'.cell? ⟨gb262, 0, none⟩ = some (.int .u64 t255) ∧ w'.cell? ⟨gb262, 1, none⟩ = some (.int .u64 t256) ∧ w'.cell? ⟨gb262, 2, none⟩ = some (.int .u64 t257) ∧ w'.cell? (ad263.add ((x4_2).toNat * 4)) = some (.bool ((rd_T36 l0 x4_2).f0)) ∧ w'.cell? ⟨(ad263.add ((x4_2).toNat * 4)).block, (ad263.add ((x4_2).toNat * 4)).off + 1, none⟩ = some (.int .u64 ((rd_T36 l0 x4_2).f1)) ∧ w'.cell? ⟨(ad263.add ((x4_2).toNat * 4)).block, (ad263.add ((x4_2).toNat * 4)).off + 2, none⟩ = some (.int .u64 ((rd_T36 l0 x4_2).f2.f0)) ∧ w'.cell? ⟨(ad263.add ((x4_2).toNat * 4)).block, (ad263.add ((x4_2).toNat * 4)).off + 3, none⟩ = some (.int .u64 ((rd_T36 l0 x4_2).f2.f1)) ∧ w'.cell? (ad263.add ((x4_2).toNat * 4)) = some (.bool ((rd_T36 l0 x4_2).f0)) ∧ w'.cell? ⟨(ad263.add ((x4_2).toNat * 4)).block, (ad263.add ((x4_2).toNat * 4)).off + 1, none⟩ = some (.int .u64 ((rd_T36 l0 x4_2).f1)) ∧ w'.cell? ⟨(ad263.add ((x4_2).toNat * 4)).block, (ad263.add ((x4_2).toNat * 4)).off + 2, none⟩ = some (.int .u64 ((rd_T36 l0 x4_2).f2.f0)) ∧ w'.cell? ⟨(ad263.add ((x4_2).toNat * 4)).block, (ad263.add ((x4_2).toNat * 4)).off + 3, none⟩ = some (.int .u64 ((rd_T36 l0 x4_2).f2.f1))) (ds := []) (b% 48 0) (by kernel_rfl) rfl rfl ⟨(blk_cell BK262.out 0).trans rfl, (blk_cell BK262.out 1).trans rfl, (blk_cell BK262.out 2).trans rfl, ((HB.out.cell (World.block_lt_of_cell? w _ hw280_0)).trans hw280_0), ((HB.out.cell (World.block_lt_of_cell? w _ hw280_1)).trans hw280_1), ((HB.out.cell (World.block_lt_of_cell? w _ hw280_2)).trans hw280_2), ((HB.out.cell (World.block_lt_of_cell? w _ hw280_3)).trans hw280_3), ((HB.out.cell (World.block_lt_of_cell? w _ hw327_0)).trans hw327_0), ((HB.out.cell (World.block_lt_of_cell? w _ hw327_1)).trans hw327_1), ((HB.out.cell (World.block_lt_of_cell? w _ hw327_2)).trans hw327_2), ((HB.out.cell (World.block_lt_of_cell? w _ hw327_3)).trans hw327_3)⟩ (fun hHeld => ?_); refine with_tabW conventiclelaw16_BallotTop.tab13 conventiclelaw16_BallotTop.bits13 (fun HT_ HW_ => ?_)
                    generalize wc.drew = w78 at BK262 HI249 HB hx280_0 hx280_1 hx280_2 hx280_3 hx327_0 hx327_1 hx327_2 hx327_3 hHeld ⊢
                    pu_go HT_ 0 55 (b% 48 1)
                    pu_go HT_ 1 56 (b% 48 3)
                    pu_go HT_ 2 57 (b% 48 7)
                    pu_go HT_ 3 58 (b% 48 15)
                    pu_go HT_ 4 59 (b% 48 31)
                    pu_go HT_ 5 60 (b% 48 63)
                    refine take_ (i := 6) (N := some 61) (v := ?_) (a' := ?_) (b% 48 127) rfl rfl (take_ofW HT_.out HW_.out (by kernel_rfl)) (fun _ _ _ h => h) (Or.inl ⟨by rfl, ?_⟩) hHeld ?_ ?_
                    rotate_left
                    ·rintro w' ⟨s0, s1, s2, s3, s4, s5, s6, s7, s8, s9, s10⟩
                     go_simp
                     with_reducible rfl
                    rotate_left
                    ·act_go
                     rfl
                    pu_go HT_ 7 62 (b% 48 255)
                    pu_go HT_ 8 63 (b% 48 511)
                    pu_go HT_ 9 64 (b% 48 1023)
                    pu_go HT_ 10 65 (b% 48 2047)
                    pu_go HT_ 11 66 (b% 48 4095)
                    pu_go HT_ 12 67 (b% 48 8191)
                    pu_go HT_ 14 69 (b% 48 24575)
                    refine take_ (i := 13) (N := some 68) (v := ?_) (a' := ?_) (b% 48 32767) rfl rfl (take_ofW HT_.out HW_.out (by kernel_rfl)) (fun _ _ _ h => h) (Or.inl ⟨by rfl, ?_⟩) hHeld ?_ ?_
                    rotate_left
                    ·rintro w' ⟨s0, s1, s2, s3, s4, s5, s6, s7, s8, s9, s10⟩
                     go_simp
                     with_reducible rfl
                    rotate_left
                    ·act_go
                     rfl
                    pu_go HT_ 15 70 (b% 48 65535)
                    pu_go HT_ 16 71 (b% 48 131071)
                    pu_go HT_ 17 72 (b% 48 262143)
                    pu_go HT_ 18 73 (b% 48 524287)
                    pu_go HT_ 19 74 (b% 48 1048575)
                    pu_go HT_ 20 75 (b% 48 2097151)
                    pu_go HT_ 21 76 (b% 48 4194303)
                    pu_go HT_ 22 77 (b% 48 8388607)
                    pu_go HT_ 24 79 (b% 48 25165823)
                    refine one_ (i := 23) (N := some 78) (b% 48 33554431) rfl rfl (one_of HT_.out (by kernel_rfl)) (by decide) (fun K hK => ?_)
                    refine goes_ Try.func9 (by kernel_rfl) rfl #[.pointer (some ⟨gb249, 0, none⟩)] (by rfl) rfl rfl ar% ?_
                    with_reducible refine (ballot_Acceptor_Top.calls gb249 x250000_13 x250001_13 x250002_13 x250003_13 t345 t346 t347 t348 t349 w _ ?side1 ?side2 A69.out).mono ?_
                    (case side1 => repeat (first | (with_reducible first | exact HI249.out | apply IsS31.alloc | apply IsS31.drewN | apply IsS31.drew | apply IsS31.set_0 | apply IsS31.set_1 | apply IsS31.set_2 | apply IsS31.set_3 | refine IsS31.far ?_ NB249_262.out _) | exact HI249.out))
                    (case side2 => repeat (first | (with_reducible first | exact HB.out | apply below_alloc | apply pw_below_drewN | apply below_drew1 | refine below_set ?_ (IsS31.ge HI249.out) | refine below_set ?_ GE262.out) | exact HB.out))
                    rintro e w79 ⟨rfl, hi, hb, hk⟩
                    refine ⟨_, rfl, ?_⟩
                    have n0_ := Aside0.mk (KeepBut.blk hk (g' := gb262) (o := .cells #[.int .u64 t255, .int .u64 t256, .int .u64 t257] 29 (0, 0)) (by (with_reducible repeat (first | refine blk_drewN ?_ _ | refine blk_drew ?_ | refine blk_alloc ?_ _)); exact BK262.out) NB262_249.out (by simp))
                    have n1_ := Aside0.mk (hb)
                    have n2_ := Aside0.mk (hi)
                    clear BK262
                    clear HB
                    clear HI249
                    have BK262 := n0_
                    have HB := n1_
                    have HI249 := n2_
                    clear n0_ n1_ n2_
                    (try clear hb)
                    (try clear hb2)
                    (try clear hk)
                    (try clear hi)
                    refine hK.out _ _ ⟨(blk_cell BK262.out 0).trans rfl, (blk_cell BK262.out 1).trans rfl, (blk_cell BK262.out 2).trans rfl, ((HB.out.cell (World.block_lt_of_cell? w _ hw280_0)).trans hw280_0), ((HB.out.cell (World.block_lt_of_cell? w _ hw280_1)).trans hw280_1), ((HB.out.cell (World.block_lt_of_cell? w _ hw280_2)).trans hw280_2), ((HB.out.cell (World.block_lt_of_cell? w _ hw280_3)).trans hw280_3), ((HB.out.cell (World.block_lt_of_cell? w _ hw327_0)).trans hw327_0), ((HB.out.cell (World.block_lt_of_cell? w _ hw327_1)).trans hw327_1), ((HB.out.cell (World.block_lt_of_cell? w _ hw327_2)).trans hw327_2), ((HB.out.cell (World.block_lt_of_cell? w _ hw327_3)).trans hw327_3)⟩ (fun hHeld => ?_)
                    clear hK K
                    refine norm_ (a' := ?_) ?_ ?_
                    rotate_left
                    ·show Act.put _ (some 78) _ = _
                     act_go
                     rfl
                    pu_go HT_ 25 80 (b% 48 67108863)
                    pu_go HT_ 26 81 (b% 48 134217727)
                    pu_go HT_ 27 82 (b% 48 268435455)
                    refine take_ (i := 29) (N := some 84) (v := ?_) (a' := ?_) (b% 48 805306367) rfl rfl (take_ofW HT_.out HW_.out (by kernel_rfl)) (fun _ _ _ h => h) (Or.inl ⟨by rfl, ?_⟩) hHeld ?_ ?_
                    rotate_left
                    ·rintro w' ⟨s0, s1, s2, s3, s4, s5, s6, s7, s8, s9, s10⟩
                     go_simp
                     with_reducible rfl
                    rotate_left
                    ·act_go
                     rfl
                    refine one_ (i := 28) (N := some 83) (b% 48 1073741823) rfl rfl (one_of HT_.out (by kernel_rfl)) (by decide) (fun K hK => ?_)
                    refine goes_ Try.func10 (by kernel_rfl) rfl #[.pointer (some ⟨gb249, 0, none⟩)] (by rfl) rfl rfl ar% ?_
                    with_reducible refine (ballot_Acceptor_Last.calls gb249 t346 t347 t348 t349 t350 t351 t352 t353 t354 t355 t356 w _ ?side1 ?side2 A71.out).mono ?_
                    (case side1 => repeat (first | (with_reducible first | exact HI249.out | apply IsS31.alloc | apply IsS31.drewN | apply IsS31.drew | apply IsS31.set_0 | apply IsS31.set_1 | apply IsS31.set_2 | apply IsS31.set_3 | refine IsS31.far ?_ NB249_262.out _) | exact HI249.out))
                    (case side2 => repeat (first | (with_reducible first | exact HB.out | apply below_alloc | apply pw_below_drewN | apply below_drew1 | refine below_set ?_ (IsS31.ge HI249.out) | refine below_set ?_ GE262.out) | exact HB.out))
                    rintro e w80 ⟨rfl, hi, hb, hk⟩
                    refine ⟨_, rfl, ?_⟩
                    have n0_ := Aside0.mk (KeepBut.blk hk (g' := gb262) (o := .cells #[.int .u64 t255, .int .u64 t256, .int .u64 t257] 29 (0, 0)) (by (with_reducible repeat (first | refine blk_drewN ?_ _ | refine blk_drew ?_ | refine blk_alloc ?_ _)); exact BK262.out) NB262_249.out (by simp))
                    have n1_ := Aside0.mk (hb)
                    have n2_ := Aside0.mk (hi)
                    clear BK262
                    clear HB
                    clear HI249
                    have BK262 := n0_
                    have HB := n1_
                    have HI249 := n2_
                    clear n0_ n1_ n2_
                    (try clear hb)
                    (try clear hb2)
                    (try clear hk)
                    (try clear hi)
                    refine hK.out _ _ ⟨(blk_cell BK262.out 0).trans rfl, (blk_cell BK262.out 1).trans rfl, (blk_cell BK262.out 2).trans rfl, ((HB.out.cell (World.block_lt_of_cell? w _ hw280_0)).trans hw280_0), ((HB.out.cell (World.block_lt_of_cell? w _ hw280_1)).trans hw280_1), ((HB.out.cell (World.block_lt_of_cell? w _ hw280_2)).trans hw280_2), ((HB.out.cell (World.block_lt_of_cell? w _ hw280_3)).trans hw280_3), ((HB.out.cell (World.block_lt_of_cell? w _ hw327_0)).trans hw327_0), ((HB.out.cell (World.block_lt_of_cell? w _ hw327_1)).trans hw327_1), ((HB.out.cell (World.block_lt_of_cell? w _ hw327_2)).trans hw327_2), ((HB.out.cell (World.block_lt_of_cell? w _ hw327_3)).trans hw327_3)⟩ (fun hHeld => ?_)
                    clear hK K
                    refine norm_ (a' := ?_) ?_ ?_
                    rotate_left
                    ·show Act.put _ (some 83) _ = _
                     act_go
                     rfl
                    pu_go HT_ 30 85 (b% 48 2147483647)
                    pu_go HT_ 31 86 (b% 48 4294967295)
                    pu_go HT_ 32 87 (b% 48 8589934591)
                    pu_go HT_ 33 88 (b% 48 17179869183)
                    pu_go HT_ 34 89 (b% 48 34359738367)
                    pu_go HT_ 35 90 (b% 48 68719476735)
                    pu_go HT_ 37 92 (b% 48 206158430207)
                    refine one_ (i := 36) (N := some 91) (b% 48 274877906943) rfl rfl (one_of HT_.out (by kernel_rfl)) (by decide) (fun K hK => ?_)
                    refine goes_ Try.func9 (by kernel_rfl) rfl #[.pointer (some ⟨gb249, 0, none⟩)] (by rfl) rfl rfl ar% ?_
                    with_reducible refine (ballot_Acceptor_Top.calls gb249 t353 t354 t355 t356 t357 t358 t359 t360 t361 w _ ?side1 ?side2 A73.out).mono ?_
                    (case side1 => repeat (first | (with_reducible first | exact HI249.out | apply IsS31.alloc | apply IsS31.drewN | apply IsS31.drew | apply IsS31.set_0 | apply IsS31.set_1 | apply IsS31.set_2 | apply IsS31.set_3 | refine IsS31.far ?_ NB249_262.out _) | exact HI249.out))
                    (case side2 => repeat (first | (with_reducible first | exact HB.out | apply below_alloc | apply pw_below_drewN | apply below_drew1 | refine below_set ?_ (IsS31.ge HI249.out) | refine below_set ?_ GE262.out) | exact HB.out))
                    rintro e w81 ⟨rfl, hi, hb, hk⟩
                    refine ⟨_, rfl, ?_⟩
                    have n0_ := Aside0.mk (KeepBut.blk hk (g' := gb262) (o := .cells #[.int .u64 t255, .int .u64 t256, .int .u64 t257] 29 (0, 0)) (by (with_reducible repeat (first | refine blk_drewN ?_ _ | refine blk_drew ?_ | refine blk_alloc ?_ _)); exact BK262.out) NB262_249.out (by simp))
                    have n1_ := Aside0.mk (hb)
                    have n2_ := Aside0.mk (hi)
                    clear BK262
                    clear HB
                    clear HI249
                    have BK262 := n0_
                    have HB := n1_
                    have HI249 := n2_
                    clear n0_ n1_ n2_
                    (try clear hb)
                    (try clear hb2)
                    (try clear hk)
                    (try clear hi)
                    refine hK.out _ _ ⟨(blk_cell BK262.out 0).trans rfl, (blk_cell BK262.out 1).trans rfl, (blk_cell BK262.out 2).trans rfl, ((HB.out.cell (World.block_lt_of_cell? w _ hw280_0)).trans hw280_0), ((HB.out.cell (World.block_lt_of_cell? w _ hw280_1)).trans hw280_1), ((HB.out.cell (World.block_lt_of_cell? w _ hw280_2)).trans hw280_2), ((HB.out.cell (World.block_lt_of_cell? w _ hw280_3)).trans hw280_3), ((HB.out.cell (World.block_lt_of_cell? w _ hw327_0)).trans hw327_0), ((HB.out.cell (World.block_lt_of_cell? w _ hw327_1)).trans hw327_1), ((HB.out.cell (World.block_lt_of_cell? w _ hw327_2)).trans hw327_2), ((HB.out.cell (World.block_lt_of_cell? w _ hw327_3)).trans hw327_3)⟩ (fun hHeld => ?_)
                    clear hK K
                    refine norm_ (a' := ?_) ?_ ?_
                    rotate_left
                    ·show Act.put _ (some 91) _ = _
                     act_go
                     rfl
                    pu_go HT_ 38 93 (b% 48 549755813887)
                    pu_go HT_ 39 94 (b% 48 1099511627775)
                    pu_go HT_ 40 95 (b% 48 2199023255551)
                    pu_go HT_ 41 96 (b% 48 4398046511103)
                    pu_go HT_ 44 99 (b% 48 21990232555519)
                    refine one_ (i := 42) (N := some 97) (b% 48 26388279066623) rfl rfl (one_of HT_.out (by kernel_rfl)) (by decide) (fun K hK => ?_)
                    refine goes_ Try.func10 (by kernel_rfl) rfl #[.pointer (some ⟨gb249, 0, none⟩)] (by rfl) rfl rfl ar% ?_
                    with_reducible refine (ballot_Acceptor_Last.calls gb249 t358 t359 t360 t361 t362 t363 t364 t365 t366 t367 t368 w _ ?side1 ?side2 A75.out).mono ?_
                    (case side1 => repeat (first | (with_reducible first | exact HI249.out | apply IsS31.alloc | apply IsS31.drewN | apply IsS31.drew | apply IsS31.set_0 | apply IsS31.set_1 | apply IsS31.set_2 | apply IsS31.set_3 | refine IsS31.far ?_ NB249_262.out _) | exact HI249.out))
                    (case side2 => repeat (first | (with_reducible first | exact HB.out | apply below_alloc | apply pw_below_drewN | apply below_drew1 | refine below_set ?_ (IsS31.ge HI249.out) | refine below_set ?_ GE262.out) | exact HB.out))
                    rintro e w82 ⟨rfl, hi, hb, hk⟩
                    refine ⟨_, rfl, ?_⟩
                    have n0_ := Aside0.mk (KeepBut.blk hk (g' := gb262) (o := .cells #[.int .u64 t255, .int .u64 t256, .int .u64 t257] 29 (0, 0)) (by (with_reducible repeat (first | refine blk_drewN ?_ _ | refine blk_drew ?_ | refine blk_alloc ?_ _)); exact BK262.out) NB262_249.out (by simp))
                    have n1_ := Aside0.mk (hb)
                    have n2_ := Aside0.mk (hi)
                    clear BK262
                    clear HB
                    clear HI249
                    have BK262 := n0_
                    have HB := n1_
                    have HI249 := n2_
                    clear n0_ n1_ n2_
                    (try clear hb)
                    (try clear hb2)
                    (try clear hk)
                    (try clear hi)
                    refine hK.out _ _ ⟨(blk_cell BK262.out 0).trans rfl, (blk_cell BK262.out 1).trans rfl, (blk_cell BK262.out 2).trans rfl, ((HB.out.cell (World.block_lt_of_cell? w _ hw280_0)).trans hw280_0), ((HB.out.cell (World.block_lt_of_cell? w _ hw280_1)).trans hw280_1), ((HB.out.cell (World.block_lt_of_cell? w _ hw280_2)).trans hw280_2), ((HB.out.cell (World.block_lt_of_cell? w _ hw280_3)).trans hw280_3), ((HB.out.cell (World.block_lt_of_cell? w _ hw327_0)).trans hw327_0), ((HB.out.cell (World.block_lt_of_cell? w _ hw327_1)).trans hw327_1), ((HB.out.cell (World.block_lt_of_cell? w _ hw327_2)).trans hw327_2), ((HB.out.cell (World.block_lt_of_cell? w _ hw327_3)).trans hw327_3)⟩ (fun hHeld => ?_)
                    clear hK K
                    refine norm_ (a' := ?_) ?_ ?_
                    rotate_left
                    ·show Act.put _ (some 97) _ = _
                     act_go
                     rfl
                    pu_go HT_ 43 98 (b% 48 35184372088831)
                    refine one_ (i := 45) (N := some 100) (b% 48 70368744177663) rfl rfl (one_of HT_.out (by kernel_rfl)) (by decide) (fun K hK => ?_)
                    refine goes_ Try.func9 (by kernel_rfl) rfl #[.pointer (some ⟨gb249, 0, none⟩)] (by rfl) rfl rfl ar% ?_
                    with_reducible refine (ballot_Acceptor_Top.calls gb249 t365 t366 t367 t368 t369 t370 t371 t372 t373 w _ ?side1 ?side2 A76.out).mono ?_
                    (case side1 => repeat (first | (with_reducible first | exact HI249.out | apply IsS31.alloc | apply IsS31.drewN | apply IsS31.drew | apply IsS31.set_0 | apply IsS31.set_1 | apply IsS31.set_2 | apply IsS31.set_3 | refine IsS31.far ?_ NB249_262.out _) | exact HI249.out))
                    (case side2 => repeat (first | (with_reducible first | exact HB.out | apply below_alloc | apply pw_below_drewN | apply below_drew1 | refine below_set ?_ (IsS31.ge HI249.out) | refine below_set ?_ GE262.out) | exact HB.out))
                    rintro e w83 ⟨rfl, hi, hb, hk⟩
                    refine ⟨_, rfl, ?_⟩
                    have n0_ := Aside0.mk (KeepBut.blk hk (g' := gb262) (o := .cells #[.int .u64 t255, .int .u64 t256, .int .u64 t257] 29 (0, 0)) (by (with_reducible repeat (first | refine blk_drewN ?_ _ | refine blk_drew ?_ | refine blk_alloc ?_ _)); exact BK262.out) NB262_249.out (by simp))
                    have n1_ := Aside0.mk (hb)
                    have n2_ := Aside0.mk (hi)
                    clear BK262
                    clear HB
                    clear HI249
                    have BK262 := n0_
                    have HB := n1_
                    have HI249 := n2_
                    clear n0_ n1_ n2_
                    (try clear hb)
                    (try clear hb2)
                    (try clear hk)
                    (try clear hi)
                    refine hK.out _ _ ⟨(blk_cell BK262.out 0).trans rfl, (blk_cell BK262.out 1).trans rfl, (blk_cell BK262.out 2).trans rfl, ((HB.out.cell (World.block_lt_of_cell? w _ hw280_0)).trans hw280_0), ((HB.out.cell (World.block_lt_of_cell? w _ hw280_1)).trans hw280_1), ((HB.out.cell (World.block_lt_of_cell? w _ hw280_2)).trans hw280_2), ((HB.out.cell (World.block_lt_of_cell? w _ hw280_3)).trans hw280_3), ((HB.out.cell (World.block_lt_of_cell? w _ hw327_0)).trans hw327_0), ((HB.out.cell (World.block_lt_of_cell? w _ hw327_1)).trans hw327_1), ((HB.out.cell (World.block_lt_of_cell? w _ hw327_2)).trans hw327_2), ((HB.out.cell (World.block_lt_of_cell? w _ hw327_3)).trans hw327_3)⟩ (fun hHeld => ?_)
                    clear hK K
                    refine norm_ (a' := ?_) ?_ ?_
                    rotate_left
                    ·show Act.put _ (some 100) _ = _
                     act_go
                     rfl
                    pu_go HT_ 46 101 (b% 48 140737488355327)
                    pu_go HT_ 47 102 (b% 48 281474976710655)
                    refine done_ (done_of HT_.out (by kernel_rfl)) ?_
                    try go_wp2
                    go_meet
                    case rel => exact ⟨_, (false), (t370), (t371), (t372), (t373), (by first | rfl | (simp; done) | (simp [*]; done)), H', ⟨by have := HJ1.out; have := HK2.out; have := HJ13.out; first | omega | exact Nat.le_refl _⟩, ⟨by (with_reducible repeat (first | refine blk_drewN ?_ _ | refine blk_drew ?_ | refine blk_alloc ?_ _)); exact BK262.out⟩, ⟨by repeat (first | (with_reducible first | exact HI249.out | apply IsS31.alloc | apply IsS31.drewN | apply IsS31.drew | apply IsS31.set_0 | apply IsS31.set_1 | apply IsS31.set_2 | apply IsS31.set_3 | refine IsS31.far ?_ NB249_262.out _) | exact HI249.out)⟩, ⟨by repeat (first | (with_reducible first | exact HB.out | apply below_alloc | apply pw_below_drewN | apply below_drew1 | refine below_set ?_ (IsS31.ge HI249.out) | refine below_set ?_ GE262.out) | exact HB.out)⟩⟩
                ·rw [if_neg c70] at H
                 exact absurd H (by simp)
            ·rw [if_neg c30] at H
             exact absurd H (by simp)
           ·rw [if_neg c29] at H
            exact absurd H (by simp)
          case rest =>
           clear HC28
           try clear c1
           try clear c2
           try clear p2
           try clear q2
           try clear hx2
           try clear c3
           try clear p3
           try clear q3
           try clear hx3
           try clear c5
           try clear c7
           try clear c9
           try clear c10
           try clear p28
           try clear q28
           try clear hx28
           try clear c29
           try clear c30
           try clear p32
           try clear q32
           try clear hx32
           try clear c59
           try clear c59b0
           try clear c59b1
           try clear c70
           try clear c70b0
           try clear c70b1
           try clear c72
           try clear c72b0
           try clear c74
           try clear c74b0
           try clear c77
           try clear c77b0
           try clear hx280_0
           try clear hx280_1
           try clear hx280_2
           try clear hx280_3
           try clear hx327_0
           try clear hx327_1
           try clear hx327_2
           try clear hx327_3
           try clear p280
           try clear p327
           try clear q280
           try clear q327
           obtain ⟨kq, x102_27, x250000_27, x250001_27, x250002_27, x250003_27, rfl, HA, HJ27, BK262, HI249, HB⟩ := hcut
           cases kq with
           | zero => exact absurd HA.out (by simp [conventiclelaw16_BallotTop.j3])
           | succ kj27 =>
            have H := HA.out
            clear HA
            simp only [conventiclelaw16_BallotTop.j3] at H
            by_cases c84 : x102_27 = true
            ·subst c84
             have H1 : (none) = some r := by rw [if_pos rfl] at H; exact H
             clear H
             have H := H1
             clear H1
             exact absurd H (by simp)
            ·replace c84 := Bool.eq_false_iff.mpr c84
             subst c84
             have H1 : (if x7_13 = 0 then ((ballot_Acceptor_Top.f x250000_27 x250001_27 x250002_27 x250003_27).bind fun bt374 => (if 0 ≤ x4_2 then (if x4_2 < (l0.length : Int) then (if bt374.1 = ((rd_T36 l0 x4_2).f1) then (if (rd_T36 l0 x4_2).f0 = true then ((ballot_Acceptor_Last.f bt374.2.1 bt374.2.2.1 bt374.2.2.2.1 bt374.2.2.2.2).bind fun bt381 => (if (!(bt381.2.1 == ((rd_T36 l0 x4_2).f2.f0)) || (!(bt381.2.2.1 == ((rd_T36 l0 x4_2).f2.f1)))) = true then (none) else (conventiclelaw16_BallotTop.l0 kj27 l0 (wrap64 (x4_2 + 1)) bt381.2.2.2.1 bt381.2.2.2.2.1 bt381.2.2.2.2.2.1 bt381.2.2.2.2.2.2))) else (conventiclelaw16_BallotTop.l0 kj27 l0 (wrap64 (x4_2 + 1)) bt374.2.1 bt374.2.2.1 bt374.2.2.2.1 bt374.2.2.2.2)) else (none)) else (none)) else (none))) else (conventiclelaw16_BallotTop.l0 kj27 l0 (wrap64 (x4_2 + 1)) x250000_27 x250001_27 x250002_27 x250003_27)) = some r := by rw [if_neg (show ¬ (false = true) by decide)] at H; exact H
             clear H
             have H := H1
             clear H1
             by_cases c85 : x7_13 = 0
             ·rw [if_pos c85] at H
              have c85b0 : (x7_13 == 0) = true := beq_iff_eq.mpr c85
              have c85b1 : (x7_13 != 0) = false := bne_eq_false_iff_eq.mpr c85
              clear c85
              replace H := Option.bind_eq_some_iff.mp H
              obtain ⟨⟨t374, t375, t376, t377, t378⟩, A860, H⟩ := H
              replace H : (if 0 ≤ x4_2 then (if x4_2 < (l0.length : Int) then (if t374 = ((rd_T36 l0 x4_2).f1) then (if (rd_T36 l0 x4_2).f0 = true then ((ballot_Acceptor_Last.f t375 t376 t377 t378).bind fun bt381 => (if (!(bt381.2.1 == ((rd_T36 l0 x4_2).f2.f0)) || (!(bt381.2.2.1 == ((rd_T36 l0 x4_2).f2.f1)))) = true then (none) else (conventiclelaw16_BallotTop.l0 kj27 l0 (wrap64 (x4_2 + 1)) bt381.2.2.2.1 bt381.2.2.2.2.1 bt381.2.2.2.2.2.1 bt381.2.2.2.2.2.2))) else (conventiclelaw16_BallotTop.l0 kj27 l0 (wrap64 (x4_2 + 1)) t375 t376 t377 t378)) else (none)) else (none)) else (none)) = some r := H
              have A86 := Aside0.mk A860
              clear A860
              by_cases c87 : 0 ≤ x4_2
              ·rw [if_pos c87] at H
               have c87b0 : decide (0 ≤ x4_2) = true := decide_eq_true c87
               clear c87
               by_cases c88 : x4_2 < (l0.length : Int)
               ·rw [if_pos c88] at H
                have c88b0 : decide (x4_2 < (l0.length : Int)) = true := decide_eq_true c88
                clear c88
                by_cases c89 : t374 = ((rd_T36 l0 x4_2).f1)
                ·rw [if_pos c89] at H
                 have c89b0 : (t374 == ((rd_T36 l0 x4_2).f1)) = true := beq_iff_eq.mpr c89
                 have c89b1 : (t374 != ((rd_T36 l0 x4_2).f1)) = false := bne_eq_false_iff_eq.mpr c89
                 clear c89
                 obtain ⟨bq90, hbq90⟩ : ∃ b_ : Bool, b_ = ((rd_T36 l0 x4_2).f0) := ⟨_, rfl⟩
                 replace H : (if bq90 = true then ((ballot_Acceptor_Last.f t375 t376 t377 t378).bind fun bt381 => (if (!(bt381.2.1 == ((rd_T36 l0 x4_2).f2.f0)) || (!(bt381.2.2.1 == ((rd_T36 l0 x4_2).f2.f1)))) = true then (none) else (conventiclelaw16_BallotTop.l0 kj27 l0 (wrap64 (x4_2 + 1)) bt381.2.2.2.1 bt381.2.2.2.2.1 bt381.2.2.2.2.2.1 bt381.2.2.2.2.2.2))) else (conventiclelaw16_BallotTop.l0 kj27 l0 (wrap64 (x4_2 + 1)) t375 t376 t377 t378)) = some r := by rw [← hbq90] at H; exact H
                 have Nbq90 := Aside0.mk hbq90
                 clear hbq90
                 by_cases c91 : bq90 = true
                 ·subst c91
                  have H1 : ((ballot_Acceptor_Last.f t375 t376 t377 t378).bind fun bt381 => (if (!(bt381.2.1 == ((rd_T36 l0 x4_2).f2.f0)) || (!(bt381.2.2.1 == ((rd_T36 l0 x4_2).f2.f1)))) = true then (none) else (conventiclelaw16_BallotTop.l0 kj27 l0 (wrap64 (x4_2 + 1)) bt381.2.2.2.1 bt381.2.2.2.2.1 bt381.2.2.2.2.2.1 bt381.2.2.2.2.2.2))) = some r := by rw [if_pos rfl] at H; exact H
                  clear H
                  have H := H1
                  clear H1
                  replace H := Option.bind_eq_some_iff.mp H
                  obtain ⟨⟨t381, t382, t383, t384, t385, t386, t387⟩, A920, H⟩ := H
                  replace H : (if (!(t382 == ((rd_T36 l0 x4_2).f2.f0)) || (!(t383 == ((rd_T36 l0 x4_2).f2.f1)))) = true then (none) else (conventiclelaw16_BallotTop.l0 kj27 l0 (wrap64 (x4_2 + 1)) t384 t385 t386 t387)) = some r := H
                  have A92 := Aside0.mk A920
                  clear A920
                  by_cases c93 : (!(t382 == ((rd_T36 l0 x4_2).f2.f0)) || (!(t383 == ((rd_T36 l0 x4_2).f2.f1)))) = true
                  ·rw [if_pos c93] at H
                   exact absurd H (by simp)
                  ·rw [if_neg c93] at H
                   have c93b0 : (!(t382 == ((rd_T36 l0 x4_2).f2.f0)) || (!(t383 == ((rd_T36 l0 x4_2).f2.f1)))) = false := by simpa using c93
                   clear c93
                   have H' := Aside0.mk H
                   clear H
                   try go_wp2
                   have n0_ := Aside0.mk (blk_drew BK262.out)
                   have n1_ := Aside0.mk (IsS31.drew HI249.out)
                   have n2_ := Aside0.mk (below_drew1 HB.out)
                   clear BK262
                   clear HI249
                   clear HB
                   have BK262 := n0_
                   have HI249 := n1_
                   have HB := n2_
                   clear n0_ n1_ n2_
                   have p379 : 0 ≤ (x4_2 : Int) := of_decide_eq_true (by first | (with_reducible assumption) | assumption)
                   have q379 : x4_2 < (l0.length : Int) := of_decide_eq_true (by first | (with_reducible assumption) | assumption)
                   obtain ⟨ad379, e379, hx379_0, hx379_1, hx379_2, hx379_3⟩ := at_T36 HR0.out x4_2 p379 q379
                   have hw379_3 := hx379_3
                   have hw379_2 := hx379_2
                   have hw379_1 := hx379_1
                   have hw379_0 := hx379_0
                   (try rw [← Nbq90.out] at hw379_0)
                   (try rw [← Nbq90.out] at hx379_0)
                   obtain rfl : ad263 = ad379 := (by injection e379)
                   replace hx379_0 := (HB.out.cell (World.block_lt_of_cell? w _ hx379_0)).trans hx379_0
                   replace hx379_1 := (HB.out.cell (World.block_lt_of_cell? w _ hx379_1)).trans hx379_1
                   replace hx379_2 := (HB.out.cell (World.block_lt_of_cell? w _ hx379_2)).trans hx379_2
                   replace hx379_3 := (HB.out.cell (World.block_lt_of_cell? w _ hx379_3)).trans hx379_3
                   replace p379 := eq_true p379
                   replace q379 := eq_true q379
                   have p380 : 0 ≤ (x4_2 : Int) := of_decide_eq_true (by first | (with_reducible assumption) | assumption)
                   have q380 : x4_2 < (l0.length : Int) := of_decide_eq_true (by first | (with_reducible assumption) | assumption)
                   obtain ⟨ad380, e380, hx380_0, hx380_1, hx380_2, hx380_3⟩ := at_T36 HR0.out x4_2 p380 q380
                   have hw380_3 := hx380_3
                   have hw380_2 := hx380_2
                   have hw380_1 := hx380_1
                   have hw380_0 := hx380_0
                   (try rw [← Nbq90.out] at hw380_0)
                   (try rw [← Nbq90.out] at hx380_0)
                   obtain rfl : ad263 = ad380 := (by injection e380)
                   replace hx380_0 := (HB.out.cell (World.block_lt_of_cell? w _ hx380_0)).trans hx380_0
                   replace hx380_1 := (HB.out.cell (World.block_lt_of_cell? w _ hx380_1)).trans hx380_1
                   replace hx380_2 := (HB.out.cell (World.block_lt_of_cell? w _ hx380_2)).trans hx380_2
                   replace hx380_3 := (HB.out.cell (World.block_lt_of_cell? w _ hx380_3)).trans hx380_3
                   replace p380 := eq_true p380
                   replace q380 := eq_true q380
                   have p388 : 0 ≤ (x4_2 : Int) := of_decide_eq_true (by first | (with_reducible assumption) | assumption)
                   have q388 : x4_2 < (l0.length : Int) := of_decide_eq_true (by first | (with_reducible assumption) | assumption)
                   obtain ⟨ad388, e388, hx388_0, hx388_1, hx388_2, hx388_3⟩ := at_T36 HR0.out x4_2 p388 q388
                   have hw388_3 := hx388_3
                   have hw388_2 := hx388_2
                   have hw388_1 := hx388_1
                   have hw388_0 := hx388_0
                   (try rw [← Nbq90.out] at hw388_0)
                   (try rw [← Nbq90.out] at hx388_0)
                   obtain rfl : ad263 = ad388 := (by injection e388)
                   replace hx388_0 := (HB.out.cell (World.block_lt_of_cell? w _ hx388_0)).trans hx388_0
                   replace hx388_1 := (HB.out.cell (World.block_lt_of_cell? w _ hx388_1)).trans hx388_1
                   replace hx388_2 := (HB.out.cell (World.block_lt_of_cell? w _ hx388_2)).trans hx388_2
                   replace hx388_3 := (HB.out.cell (World.block_lt_of_cell? w _ hx388_3)).trans hx388_3
                   replace p388 := eq_true p388
                   replace q388 := eq_true q388
                   refine start_ (n := 30) (S := fun w' => w'.cell? (ad263.add ((x4_2).toNat * 4)) = some (.bool true) ∧ w'.cell? ⟨(ad263.add ((x4_2).toNat * 4)).block, (ad263.add ((x4_2).toNat * 4)).off + 1, none⟩ = some (.int .u64 ((rd_T36 l0 x4_2).f1)) ∧ w'.cell? ⟨(ad263.add ((x4_2).toNat * 4)).block, (ad263.add ((x4_2).toNat * 4)).off + 2, none⟩ = some (.int .u64 ((rd_T36 l0 x4_2).f2.f0)) ∧ w'.cell? ⟨(ad263.add ((x4_2).toNat * 4)).block, (ad263.add ((x4_2).toNat * 4)).off + 3, none⟩ = some (.int .u64 ((rd_T36 l0 x4_2).f2.f1)) ∧ w'.cell? (ad263.add ((x4_2).toNat * 4)) = some (.bool true) ∧ w'.cell? ⟨(ad263.add ((x4_2).toNat * 4)).block, (ad263.add ((x4_2).toNat * 4)).off + 1, none⟩ = some (.int .u64 ((rd_T36 l0 x4_2).f1)) ∧ w'.cell? ⟨(ad263.add ((x4_2).toNat * 4)).block, (ad263.add ((x4_2).toNat * 4)).off + 2, none⟩ = some (.int .u64 ((rd_T36 l0 x4_2).f2.f0)) ∧ w'.cell? ⟨(ad263.add ((x4_2).toNat * 4)).block, (ad263.add ((x4_2).toNat * 4)).off + 3, none⟩ = some (.int .u64 ((rd_T36 l0 x4_2).f2.f1)) ∧ w'.cell? (ad263.add ((x4_2).toNat * 4)) = some (.bool (true)) ∧ w'.cell? ⟨(ad263.add ((x4_2).toNat * 4)).block, (ad263.add ((x4_2).toNat * 4)).off + 1, none⟩ = some (.int .u64 ((rd_T36 l0 x4_2).f1)) ∧ w'.cell? ⟨(ad263.add ((x4_2).toNat * 4)).block, (ad263.add ((x4_2).toNat * 4)).off + 2, none⟩ = some (.int .u64 ((rd_T36 l0 x4_2).f2.f0)) ∧ w'.cell? ⟨(ad263.add ((x4_2).toNat * 4)).block, (ad263.add ((x4_2).toNat * 4)).off + 3, none⟩ = some (.int .u64 ((rd_T36 l0 x4_2).f2.f1))) (ds := []) (b% 30 0) (by kernel_rfl) rfl rfl ⟨((HB.out.cell (World.block_lt_of_cell? w _ hw379_0)).trans hw379_0), ((HB.out.cell (World.block_lt_of_cell? w _ hw379_1)).trans hw379_1), ((HB.out.cell (World.block_lt_of_cell? w _ hw379_2)).trans hw379_2), ((HB.out.cell (World.block_lt_of_cell? w _ hw379_3)).trans hw379_3), ((HB.out.cell (World.block_lt_of_cell? w _ hw380_0)).trans hw380_0), ((HB.out.cell (World.block_lt_of_cell? w _ hw380_1)).trans hw380_1), ((HB.out.cell (World.block_lt_of_cell? w _ hw380_2)).trans hw380_2), ((HB.out.cell (World.block_lt_of_cell? w _ hw380_3)).trans hw380_3), ((HB.out.cell (World.block_lt_of_cell? w _ hw388_0)).trans hw388_0), ((HB.out.cell (World.block_lt_of_cell? w _ hw388_1)).trans hw388_1), ((HB.out.cell (World.block_lt_of_cell? w _ hw388_2)).trans hw388_2), ((HB.out.cell (World.block_lt_of_cell? w _ hw388_3)).trans hw388_3)⟩ (fun hHeld => ?_); refine with_tabW conventiclelaw16_BallotTop.tab15 conventiclelaw16_BallotTop.bits15 (fun HT_ HW_ => ?_)
                   generalize wc.drew = w94 at BK262 HI249 HB hx379_0 hx379_1 hx379_2 hx379_3 hx380_0 hx380_1 hx380_2 hx380_3 hx388_0 hx388_1 hx388_2 hx388_3 hHeld ⊢
                   pu_go HT_ 0 103 (b% 30 1)
                   pu_go HT_ 1 104 (b% 30 3)
                   pu_go HT_ 2 105 (b% 30 7)
                   pu_go HT_ 3 106 (b% 30 15)
                   pu_go HT_ 5 108 (b% 30 47)
                   pu_go HT_ 6 109 (b% 30 111)
                   pu_go HT_ 7 110 (b% 30 239)
                   pu_go HT_ 8 111 (b% 30 495)
                   refine take_ (i := 9) (N := some 112) (v := ?_) (a' := ?_) (b% 30 1007) rfl rfl (take_ofW HT_.out HW_.out (by kernel_rfl)) (fun _ _ _ h => h) (Or.inl ⟨by rfl, ?_⟩) hHeld ?_ ?_
                   rotate_left
                   ·rintro w' ⟨s0, s1, s2, s3, s4, s5, s6, s7, s8, s9, s10, s11⟩
                    go_simp
                    with_reducible rfl
                   rotate_left
                   ·act_go
                    rfl
                   refine one_ (i := 4) (N := some 107) (b% 30 1023) rfl rfl (one_of HT_.out (by kernel_rfl)) (by decide) (fun K hK => ?_)
                   refine goes_ Try.func9 (by kernel_rfl) rfl #[.pointer (some ⟨gb249, 0, none⟩)] (by rfl) rfl rfl ar% ?_
                   with_reducible refine (ballot_Acceptor_Top.calls gb249 x250000_27 x250001_27 x250002_27 x250003_27 t374 t375 t376 t377 t378 w _ ?side1 ?side2 A86.out).mono ?_
                   (case side1 => repeat (first | (with_reducible first | exact HI249.out | apply IsS31.alloc | apply IsS31.drewN | apply IsS31.drew | apply IsS31.set_0 | apply IsS31.set_1 | apply IsS31.set_2 | apply IsS31.set_3 | refine IsS31.far ?_ NB249_262.out _) | exact HI249.out))
                   (case side2 => repeat (first | (with_reducible first | exact HB.out | apply below_alloc | apply pw_below_drewN | apply below_drew1 | refine below_set ?_ (IsS31.ge HI249.out) | refine below_set ?_ GE262.out) | exact HB.out))
                   rintro e w95 ⟨rfl, hi, hb, hk⟩
                   refine ⟨_, rfl, ?_⟩
                   have n0_ := Aside0.mk (KeepBut.blk hk (g' := gb262) (o := .cells #[.int .u64 t255, .int .u64 t256, .int .u64 t257] 29 (0, 0)) (by (with_reducible repeat (first | refine blk_drewN ?_ _ | refine blk_drew ?_ | refine blk_alloc ?_ _)); exact BK262.out) NB262_249.out (by simp))
                   have n1_ := Aside0.mk (hb)
                   have n2_ := Aside0.mk (hi)
                   clear BK262
                   clear HB
                   clear HI249
                   have BK262 := n0_
                   have HB := n1_
                   have HI249 := n2_
                   clear n0_ n1_ n2_
                   (try clear hb)
                   (try clear hb2)
                   (try clear hk)
                   (try clear hi)
                   refine hK.out _ _ ⟨((HB.out.cell (World.block_lt_of_cell? w _ hw379_0)).trans hw379_0), ((HB.out.cell (World.block_lt_of_cell? w _ hw379_1)).trans hw379_1), ((HB.out.cell (World.block_lt_of_cell? w _ hw379_2)).trans hw379_2), ((HB.out.cell (World.block_lt_of_cell? w _ hw379_3)).trans hw379_3), ((HB.out.cell (World.block_lt_of_cell? w _ hw380_0)).trans hw380_0), ((HB.out.cell (World.block_lt_of_cell? w _ hw380_1)).trans hw380_1), ((HB.out.cell (World.block_lt_of_cell? w _ hw380_2)).trans hw380_2), ((HB.out.cell (World.block_lt_of_cell? w _ hw380_3)).trans hw380_3), ((HB.out.cell (World.block_lt_of_cell? w _ hw388_0)).trans hw388_0), ((HB.out.cell (World.block_lt_of_cell? w _ hw388_1)).trans hw388_1), ((HB.out.cell (World.block_lt_of_cell? w _ hw388_2)).trans hw388_2), ((HB.out.cell (World.block_lt_of_cell? w _ hw388_3)).trans hw388_3)⟩ (fun hHeld => ?_)
                   clear hK K
                   refine norm_ (a' := ?_) ?_ ?_
                   rotate_left
                   ·show Act.put _ (some 107) _ = _
                    act_go
                    rfl
                   pu_go HT_ 10 113 (b% 30 2047)
                   pu_go HT_ 11 114 (b% 30 4095)
                   pu_go HT_ 12 115 (b% 30 8191)
                   pu_go HT_ 13 116 (b% 30 16383)
                   pu_go HT_ 14 117 (b% 30 32767)
                   pu_go HT_ 15 118 (b% 30 65535)
                   refine take_ (i := 16) (N := some 119) (v := ?_) (a' := ?_) (b% 30 131071) rfl rfl (take_ofW HT_.out HW_.out (by kernel_rfl)) (fun _ _ _ h => h) (Or.inl ⟨by rfl, ?_⟩) hHeld ?_ ?_
                   rotate_left
                   ·rintro w' ⟨s0, s1, s2, s3, s4, s5, s6, s7, s8, s9, s10, s11⟩
                    go_simp
                    with_reducible rfl
                   rotate_left
                   ·act_go
                    rfl
                   pu_go HT_ 17 120 (b% 30 262143)
                   pu_go HT_ 18 121 (b% 30 524287)
                   pu_go HT_ 21 124 (b% 30 2621439)
                   pu_go HT_ 22 125 (b% 30 6815743)
                   pu_go HT_ 23 126 (b% 30 15204351)
                   pu_go HT_ 24 127 (b% 30 31981567)
                   refine take_ (i := 25) (N := some 128) (v := ?_) (a' := ?_) (b% 30 65535999) rfl rfl (take_ofW HT_.out HW_.out (by kernel_rfl)) (fun _ _ _ h => h) (Or.inl ⟨by rfl, ?_⟩) hHeld ?_ ?_
                   rotate_left
                   ·rintro w' ⟨s0, s1, s2, s3, s4, s5, s6, s7, s8, s9, s10, s11⟩
                    go_simp
                    with_reducible rfl
                   rotate_left
                   ·act_go
                    rfl
                   refine one_ (i := 19) (N := some 122) (b% 30 66060287) rfl rfl (one_of HT_.out (by kernel_rfl)) (by decide) (fun K hK => ?_)
                   refine goes_ Try.func10 (by kernel_rfl) rfl #[.pointer (some ⟨gb249, 0, none⟩)] (by rfl) rfl rfl ar% ?_
                   with_reducible refine (ballot_Acceptor_Last.calls gb249 t375 t376 t377 t378 t381 t382 t383 t384 t385 t386 t387 w _ ?side1 ?side2 A92.out).mono ?_
                   (case side1 => repeat (first | (with_reducible first | exact HI249.out | apply IsS31.alloc | apply IsS31.drewN | apply IsS31.drew | apply IsS31.set_0 | apply IsS31.set_1 | apply IsS31.set_2 | apply IsS31.set_3 | refine IsS31.far ?_ NB249_262.out _) | exact HI249.out))
                   (case side2 => repeat (first | (with_reducible first | exact HB.out | apply below_alloc | apply pw_below_drewN | apply below_drew1 | refine below_set ?_ (IsS31.ge HI249.out) | refine below_set ?_ GE262.out) | exact HB.out))
                   rintro e w96 ⟨rfl, hi, hb, hk⟩
                   refine ⟨_, rfl, ?_⟩
                   have n0_ := Aside0.mk (KeepBut.blk hk (g' := gb262) (o := .cells #[.int .u64 t255, .int .u64 t256, .int .u64 t257] 29 (0, 0)) (by (with_reducible repeat (first | refine blk_drewN ?_ _ | refine blk_drew ?_ | refine blk_alloc ?_ _)); exact BK262.out) NB262_249.out (by simp))
                   have n1_ := Aside0.mk (hb)
                   have n2_ := Aside0.mk (hi)
                   clear BK262
                   clear HB
                   clear HI249
                   have BK262 := n0_
                   have HB := n1_
                   have HI249 := n2_
                   clear n0_ n1_ n2_
                   (try clear hb)
                   (try clear hb2)
                   (try clear hk)
                   (try clear hi)
                   refine hK.out _ _ ⟨((HB.out.cell (World.block_lt_of_cell? w _ hw379_0)).trans hw379_0), ((HB.out.cell (World.block_lt_of_cell? w _ hw379_1)).trans hw379_1), ((HB.out.cell (World.block_lt_of_cell? w _ hw379_2)).trans hw379_2), ((HB.out.cell (World.block_lt_of_cell? w _ hw379_3)).trans hw379_3), ((HB.out.cell (World.block_lt_of_cell? w _ hw380_0)).trans hw380_0), ((HB.out.cell (World.block_lt_of_cell? w _ hw380_1)).trans hw380_1), ((HB.out.cell (World.block_lt_of_cell? w _ hw380_2)).trans hw380_2), ((HB.out.cell (World.block_lt_of_cell? w _ hw380_3)).trans hw380_3), ((HB.out.cell (World.block_lt_of_cell? w _ hw388_0)).trans hw388_0), ((HB.out.cell (World.block_lt_of_cell? w _ hw388_1)).trans hw388_1), ((HB.out.cell (World.block_lt_of_cell? w _ hw388_2)).trans hw388_2), ((HB.out.cell (World.block_lt_of_cell? w _ hw388_3)).trans hw388_3)⟩ (fun hHeld => ?_)
                   clear hK K
                   refine norm_ (a' := ?_) ?_ ?_
                   rotate_left
                   ·show Act.put _ (some 122) _ = _
                    act_go
                    rfl
                   pu_go HT_ 20 123 (b% 30 67108863)
                   pu_go HT_ 26 129 (b% 30 134217727)
                   pu_go HT_ 27 130 (b% 30 268435455)
                   pu_go HT_ 28 131 (b% 30 536870911)
                   pu_go HT_ 29 132 (b% 30 1073741823)
                   refine done_ (done_of HT_.out (by kernel_rfl)) ?_
                   try go_wp2
                   go_roundg kj27
                   case measure => have := HJ1.out; have := HK2.out; have := HJ13.out; have := HJ27.out; omega
                   case rel => exact ⟨(wrap64 (x4_2 + 1)), (t384), (t385), (t386), (t387), (by first | rfl | (simp; done) | (simp [*]; done)), H', ⟨by have := HJ1.out; have := HK2.out; have := HJ13.out; have := HJ27.out; omega⟩, ⟨by repeat (first | (with_reducible first | exact HI249.out | apply IsS31.alloc | apply IsS31.drewN | apply IsS31.drew | apply IsS31.set_0 | apply IsS31.set_1 | apply IsS31.set_2 | apply IsS31.set_3 | refine IsS31.far ?_ NB249_262.out _) | exact HI249.out)⟩, ⟨by repeat (first | (with_reducible first | exact HB.out | apply below_alloc | apply pw_below_drewN | apply below_drew1 | refine below_set ?_ (IsS31.ge HI249.out) | refine below_set ?_ GE262.out) | exact HB.out)⟩⟩
                 ·replace c91 := Bool.eq_false_iff.mpr c91
                  subst c91
                  have H1 : (conventiclelaw16_BallotTop.l0 kj27 l0 (wrap64 (x4_2 + 1)) t375 t376 t377 t378) = some r := by rw [if_neg (show ¬ (false = true) by decide)] at H; exact H
                  clear H
                  have H := H1
                  clear H1
                  have H' := Aside0.mk H
                  clear H
                  try go_wp2
                  have n0_ := Aside0.mk (blk_drew BK262.out)
                  have n1_ := Aside0.mk (IsS31.drew HI249.out)
                  have n2_ := Aside0.mk (below_drew1 HB.out)
                  clear BK262
                  clear HI249
                  clear HB
                  have BK262 := n0_
                  have HI249 := n1_
                  have HB := n2_
                  clear n0_ n1_ n2_
                  have p379 : 0 ≤ (x4_2 : Int) := of_decide_eq_true (by first | (with_reducible assumption) | assumption)
                  have q379 : x4_2 < (l0.length : Int) := of_decide_eq_true (by first | (with_reducible assumption) | assumption)
                  obtain ⟨ad379, e379, hx379_0, hx379_1, hx379_2, hx379_3⟩ := at_T36 HR0.out x4_2 p379 q379
                  have hw379_3 := hx379_3
                  have hw379_2 := hx379_2
                  have hw379_1 := hx379_1
                  have hw379_0 := hx379_0
                  (try rw [← Nbq90.out] at hw379_0)
                  (try rw [← Nbq90.out] at hx379_0)
                  obtain rfl : ad263 = ad379 := (by injection e379)
                  replace hx379_0 := (HB.out.cell (World.block_lt_of_cell? w _ hx379_0)).trans hx379_0
                  replace hx379_1 := (HB.out.cell (World.block_lt_of_cell? w _ hx379_1)).trans hx379_1
                  replace hx379_2 := (HB.out.cell (World.block_lt_of_cell? w _ hx379_2)).trans hx379_2
                  replace hx379_3 := (HB.out.cell (World.block_lt_of_cell? w _ hx379_3)).trans hx379_3
                  replace p379 := eq_true p379
                  replace q379 := eq_true q379
                  have p380 : 0 ≤ (x4_2 : Int) := of_decide_eq_true (by first | (with_reducible assumption) | assumption)
                  have q380 : x4_2 < (l0.length : Int) := of_decide_eq_true (by first | (with_reducible assumption) | assumption)
                  obtain ⟨ad380, e380, hx380_0, hx380_1, hx380_2, hx380_3⟩ := at_T36 HR0.out x4_2 p380 q380
                  have hw380_3 := hx380_3
                  have hw380_2 := hx380_2
                  have hw380_1 := hx380_1
                  have hw380_0 := hx380_0
                  (try rw [← Nbq90.out] at hw380_0)
                  (try rw [← Nbq90.out] at hx380_0)
                  obtain rfl : ad263 = ad380 := (by injection e380)
                  replace hx380_0 := (HB.out.cell (World.block_lt_of_cell? w _ hx380_0)).trans hx380_0
                  replace hx380_1 := (HB.out.cell (World.block_lt_of_cell? w _ hx380_1)).trans hx380_1
                  replace hx380_2 := (HB.out.cell (World.block_lt_of_cell? w _ hx380_2)).trans hx380_2
                  replace hx380_3 := (HB.out.cell (World.block_lt_of_cell? w _ hx380_3)).trans hx380_3
                  replace p380 := eq_true p380
                  replace q380 := eq_true q380
                  refine start_ (n := 30) (S := fun w' => w'.cell? (ad263.add ((x4_2).toNat * 4)) = some (.bool false) ∧ w'.cell? ⟨(ad263.add ((x4_2).toNat * 4)).block, (ad263.add ((x4_2).toNat * 4)).off + 1, none⟩ = some (.int .u64 ((rd_T36 l0 x4_2).f1)) ∧ w'.cell? ⟨(ad263.add ((x4_2).toNat * 4)).block, (ad263.add ((x4_2).toNat * 4)).off + 2, none⟩ = some (.int .u64 ((rd_T36 l0 x4_2).f2.f0)) ∧ w'.cell? ⟨(ad263.add ((x4_2).toNat * 4)).block, (ad263.add ((x4_2).toNat * 4)).off + 3, none⟩ = some (.int .u64 ((rd_T36 l0 x4_2).f2.f1)) ∧ w'.cell? (ad263.add ((x4_2).toNat * 4)) = some (.bool false) ∧ w'.cell? ⟨(ad263.add ((x4_2).toNat * 4)).block, (ad263.add ((x4_2).toNat * 4)).off + 1, none⟩ = some (.int .u64 ((rd_T36 l0 x4_2).f1)) ∧ w'.cell? ⟨(ad263.add ((x4_2).toNat * 4)).block, (ad263.add ((x4_2).toNat * 4)).off + 2, none⟩ = some (.int .u64 ((rd_T36 l0 x4_2).f2.f0)) ∧ w'.cell? ⟨(ad263.add ((x4_2).toNat * 4)).block, (ad263.add ((x4_2).toNat * 4)).off + 3, none⟩ = some (.int .u64 ((rd_T36 l0 x4_2).f2.f1))) (ds := []) (b% 30 0) (by kernel_rfl) rfl rfl ⟨((HB.out.cell (World.block_lt_of_cell? w _ hw379_0)).trans hw379_0), ((HB.out.cell (World.block_lt_of_cell? w _ hw379_1)).trans hw379_1), ((HB.out.cell (World.block_lt_of_cell? w _ hw379_2)).trans hw379_2), ((HB.out.cell (World.block_lt_of_cell? w _ hw379_3)).trans hw379_3), ((HB.out.cell (World.block_lt_of_cell? w _ hw380_0)).trans hw380_0), ((HB.out.cell (World.block_lt_of_cell? w _ hw380_1)).trans hw380_1), ((HB.out.cell (World.block_lt_of_cell? w _ hw380_2)).trans hw380_2), ((HB.out.cell (World.block_lt_of_cell? w _ hw380_3)).trans hw380_3)⟩ (fun hHeld => ?_); refine with_tabW conventiclelaw16_BallotTop.tab15 conventiclelaw16_BallotTop.bits15 (fun HT_ HW_ => ?_)
                  generalize wc.drew = w97 at BK262 HI249 HB hx379_0 hx379_1 hx379_2 hx379_3 hx380_0 hx380_1 hx380_2 hx380_3 hHeld ⊢
                  pu_go HT_ 0 103 (b% 30 1)
                  pu_go HT_ 1 104 (b% 30 3)
                  pu_go HT_ 2 105 (b% 30 7)
                  pu_go HT_ 3 106 (b% 30 15)
                  pu_go HT_ 5 108 (b% 30 47)
                  pu_go HT_ 6 109 (b% 30 111)
                  pu_go HT_ 7 110 (b% 30 239)
                  pu_go HT_ 8 111 (b% 30 495)
                  refine take_ (i := 9) (N := some 112) (v := ?_) (a' := ?_) (b% 30 1007) rfl rfl (take_ofW HT_.out HW_.out (by kernel_rfl)) (fun _ _ _ h => h) (Or.inl ⟨by rfl, ?_⟩) hHeld ?_ ?_
                  rotate_left
                  ·rintro w' ⟨s0, s1, s2, s3, s4, s5, s6, s7⟩
                   go_simp
                   with_reducible rfl
                  rotate_left
                  ·act_go
                   rfl
                  refine one_ (i := 4) (N := some 107) (b% 30 1023) rfl rfl (one_of HT_.out (by kernel_rfl)) (by decide) (fun K hK => ?_)
                  refine goes_ Try.func9 (by kernel_rfl) rfl #[.pointer (some ⟨gb249, 0, none⟩)] (by rfl) rfl rfl ar% ?_
                  with_reducible refine (ballot_Acceptor_Top.calls gb249 x250000_27 x250001_27 x250002_27 x250003_27 t374 t375 t376 t377 t378 w _ ?side1 ?side2 A86.out).mono ?_
                  (case side1 => repeat (first | (with_reducible first | exact HI249.out | apply IsS31.alloc | apply IsS31.drewN | apply IsS31.drew | apply IsS31.set_0 | apply IsS31.set_1 | apply IsS31.set_2 | apply IsS31.set_3 | refine IsS31.far ?_ NB249_262.out _) | exact HI249.out))
                  (case side2 => repeat (first | (with_reducible first | exact HB.out | apply below_alloc | apply pw_below_drewN | apply below_drew1 | refine below_set ?_ (IsS31.ge HI249.out) | refine below_set ?_ GE262.out) | exact HB.out))
                  rintro e w98 ⟨rfl, hi, hb, hk⟩
                  refine ⟨_, rfl, ?_⟩
                  have n0_ := Aside0.mk (KeepBut.blk hk (g' := gb262) (o := .cells #[.int .u64 t255, .int .u64 t256, .int .u64 t257] 29 (0, 0)) (by (with_reducible repeat (first | refine blk_drewN ?_ _ | refine blk_drew ?_ | refine blk_alloc ?_ _)); exact BK262.out) NB262_249.out (by simp))
                  have n1_ := Aside0.mk (hb)
                  have n2_ := Aside0.mk (hi)
                  clear BK262
                  clear HB
                  clear HI249
                  have BK262 := n0_
                  have HB := n1_
                  have HI249 := n2_
                  clear n0_ n1_ n2_
                  (try clear hb)
                  (try clear hb2)
                  (try clear hk)
                  (try clear hi)
                  refine hK.out _ _ ⟨((HB.out.cell (World.block_lt_of_cell? w _ hw379_0)).trans hw379_0), ((HB.out.cell (World.block_lt_of_cell? w _ hw379_1)).trans hw379_1), ((HB.out.cell (World.block_lt_of_cell? w _ hw379_2)).trans hw379_2), ((HB.out.cell (World.block_lt_of_cell? w _ hw379_3)).trans hw379_3), ((HB.out.cell (World.block_lt_of_cell? w _ hw380_0)).trans hw380_0), ((HB.out.cell (World.block_lt_of_cell? w _ hw380_1)).trans hw380_1), ((HB.out.cell (World.block_lt_of_cell? w _ hw380_2)).trans hw380_2), ((HB.out.cell (World.block_lt_of_cell? w _ hw380_3)).trans hw380_3)⟩ (fun hHeld => ?_)
                  clear hK K
                  refine norm_ (a' := ?_) ?_ ?_
                  rotate_left
                  ·show Act.put _ (some 107) _ = _
                   act_go
                   rfl
                  pu_go HT_ 10 113 (b% 30 2047)
                  pu_go HT_ 11 114 (b% 30 4095)
                  pu_go HT_ 12 115 (b% 30 8191)
                  pu_go HT_ 13 116 (b% 30 16383)
                  pu_go HT_ 14 117 (b% 30 32767)
                  pu_go HT_ 15 118 (b% 30 65535)
                  refine take_ (i := 16) (N := some 119) (v := ?_) (a' := ?_) (b% 30 131071) rfl rfl (take_ofW HT_.out HW_.out (by kernel_rfl)) (fun _ _ _ h => h) (Or.inl ⟨by rfl, ?_⟩) hHeld ?_ ?_
                  rotate_left
                  ·rintro w' ⟨s0, s1, s2, s3, s4, s5, s6, s7⟩
                   go_simp
                   with_reducible rfl
                  rotate_left
                  ·act_go
                   rfl
                  pu_go HT_ 17 120 (b% 30 262143)
                  refine pure_ (i := 18) (N := some 121) (v := undef) (a' := ?_) (b% 30 524287) rfl rfl (any_of HT_.out (by kernel_rfl)) (fun _ _ _ h => h) (Or.inr ⟨by rfl, rfl⟩) ?_ ?_
                  rotate_left
                  ·act_go
                   rfl
                  refine pure_ (i := 19) (N := some 122) (v := undef) (a' := ?_) (b% 30 1048575) rfl rfl (any_of HT_.out (by kernel_rfl)) (fun _ _ _ h => h) (Or.inr ⟨by rfl, rfl⟩) ?_ ?_
                  rotate_left
                  ·act_go
                   rfl
                  refine pure_ (i := 20) (N := some 123) (v := undef) (a' := ?_) (b% 30 2097151) rfl rfl (any_of HT_.out (by kernel_rfl)) (fun _ _ _ h => h) (Or.inr ⟨by rfl, rfl⟩) ?_ ?_
                  rotate_left
                  ·act_go
                   rfl
                  refine pure_ (i := 21) (N := some 124) (v := undef) (a' := ?_) (b% 30 4194303) rfl rfl (any_of HT_.out (by kernel_rfl)) (fun _ _ _ h => h) (Or.inr ⟨by rfl, rfl⟩) ?_ ?_
                  rotate_left
                  ·act_go
                   rfl
                  refine pure_ (i := 22) (N := some 125) (v := undef) (a' := ?_) (b% 30 8388607) rfl rfl (any_of HT_.out (by kernel_rfl)) (fun _ _ _ h => h) (Or.inr ⟨by rfl, rfl⟩) ?_ ?_
                  rotate_left
                  ·act_go
                   rfl
                  refine pure_ (i := 23) (N := some 126) (v := undef) (a' := ?_) (b% 30 16777215) rfl rfl (any_of HT_.out (by kernel_rfl)) (fun _ _ _ h => h) (Or.inr ⟨by rfl, rfl⟩) ?_ ?_
                  rotate_left
                  ·act_go
                   rfl
                  refine pure_ (i := 24) (N := some 127) (v := undef) (a' := ?_) (b% 30 33554431) rfl rfl (any_of HT_.out (by kernel_rfl)) (fun _ _ _ h => h) (Or.inr ⟨by rfl, rfl⟩) ?_ ?_
                  rotate_left
                  ·act_go
                   rfl
                  refine pure_ (i := 25) (N := some 128) (v := undef) (a' := ?_) (b% 30 67108863) rfl rfl (any_of HT_.out (by kernel_rfl)) (fun _ _ _ h => h) (Or.inr ⟨by rfl, rfl⟩) ?_ ?_
                  rotate_left
                  ·act_go
                   rfl
                  refine pure_ (i := 26) (N := some 129) (v := undef) (a' := ?_) (b% 30 134217727) rfl rfl (any_of HT_.out (by kernel_rfl)) (fun _ _ _ h => h) (Or.inr ⟨by rfl, rfl⟩) ?_ ?_
                  rotate_left
                  ·act_go
                   rfl
                  pu_go HT_ 27 130 (b% 30 268435455)
                  pu_go HT_ 28 131 (b% 30 536870911)
                  pu_go HT_ 29 132 (b% 30 1073741823)
                  refine done_ (done_of HT_.out (by kernel_rfl)) ?_
                  try go_wp2
                  go_roundg kj27
                  case measure => have := HJ1.out; have := HK2.out; have := HJ13.out; have := HJ27.out; omega
                  case rel => exact ⟨(wrap64 (x4_2 + 1)), (t375), (t376), (t377), (t378), (by first | rfl | (simp; done) | (simp [*]; done)), H', ⟨by have := HJ1.out; have := HK2.out; have := HJ13.out; have := HJ27.out; omega⟩, ⟨by repeat (first | (with_reducible first | exact HI249.out | apply IsS31.alloc | apply IsS31.drewN | apply IsS31.drew | apply IsS31.set_0 | apply IsS31.set_1 | apply IsS31.set_2 | apply IsS31.set_3 | refine IsS31.far ?_ NB249_262.out _) | exact HI249.out)⟩, ⟨by repeat (first | (with_reducible first | exact HB.out | apply below_alloc | apply pw_below_drewN | apply below_drew1 | refine below_set ?_ (IsS31.ge HI249.out) | refine below_set ?_ GE262.out) | exact HB.out)⟩⟩
                ·rw [if_neg c89] at H
                 exact absurd H (by simp)
               ·rw [if_neg c88] at H
                exact absurd H (by simp)
              ·rw [if_neg c87] at H
               exact absurd H (by simp)
             ·rw [if_neg c85] at H
              have c85b0 : (x7_13 == 0) = false := beq_eq_false_iff_ne.mpr c85
              have c85b1 : (x7_13 != 0) = true := bne_iff_ne.mpr c85
              have H' := Aside0.mk H
              clear H
              try go_wp2
              have n0_ := Aside0.mk (blk_drew BK262.out)
              have n1_ := Aside0.mk (IsS31.drew HI249.out)
              have n2_ := Aside0.mk (below_drew1 HB.out)
              clear BK262
              clear HI249
              clear HB
              have BK262 := n0_
              have HI249 := n1_
              have HB := n2_
              clear n0_ n1_ n2_
              refine start_ (n := 30) (S := fun w' => True) (ds := []) (b% 30 0) (by kernel_rfl) rfl rfl trivial (fun hHeld => ?_); refine with_tabW conventiclelaw16_BallotTop.tab15 conventiclelaw16_BallotTop.bits15 (fun HT_ HW_ => ?_)
              generalize wc.drew = w99 at BK262 HI249 HB hHeld ⊢
              pu_go HT_ 0 103 (b% 30 1)
              pu_go HT_ 1 104 (b% 30 3)
              pu_go HT_ 2 105 (b% 30 7)
              refine pure_ (i := 3) (N := some 106) (v := undef) (a' := ?_) (b% 30 15) rfl rfl (any_of HT_.out (by kernel_rfl)) (fun _ _ _ h => h) (Or.inr ⟨by rfl, rfl⟩) ?_ ?_
              rotate_left
              ·act_go
               rfl
              refine pure_ (i := 4) (N := some 107) (v := undef) (a' := ?_) (b% 30 31) rfl rfl (any_of HT_.out (by kernel_rfl)) (fun _ _ _ h => h) (Or.inr ⟨by rfl, rfl⟩) ?_ ?_
              rotate_left
              ·act_go
               rfl
              refine pure_ (i := 5) (N := some 108) (v := undef) (a' := ?_) (b% 30 63) rfl rfl (any_of HT_.out (by kernel_rfl)) (fun _ _ _ h => h) (Or.inr ⟨by rfl, rfl⟩) ?_ ?_
              rotate_left
              ·act_go
               rfl
              refine pure_ (i := 6) (N := some 109) (v := undef) (a' := ?_) (b% 30 127) rfl rfl (any_of HT_.out (by kernel_rfl)) (fun _ _ _ h => h) (Or.inr ⟨by rfl, rfl⟩) ?_ ?_
              rotate_left
              ·act_go
               rfl
              refine pure_ (i := 7) (N := some 110) (v := undef) (a' := ?_) (b% 30 255) rfl rfl (any_of HT_.out (by kernel_rfl)) (fun _ _ _ h => h) (Or.inr ⟨by rfl, rfl⟩) ?_ ?_
              rotate_left
              ·act_go
               rfl
              refine pure_ (i := 8) (N := some 111) (v := undef) (a' := ?_) (b% 30 511) rfl rfl (any_of HT_.out (by kernel_rfl)) (fun _ _ _ h => h) (Or.inr ⟨by rfl, rfl⟩) ?_ ?_
              rotate_left
              ·act_go
               rfl
              refine pure_ (i := 9) (N := some 112) (v := undef) (a' := ?_) (b% 30 1023) rfl rfl (any_of HT_.out (by kernel_rfl)) (fun _ _ _ h => h) (Or.inr ⟨by rfl, rfl⟩) ?_ ?_
              rotate_left
              ·act_go
               rfl
              refine pure_ (i := 10) (N := some 113) (v := undef) (a' := ?_) (b% 30 2047) rfl rfl (any_of HT_.out (by kernel_rfl)) (fun _ _ _ h => h) (Or.inr ⟨by rfl, rfl⟩) ?_ ?_
              rotate_left
              ·act_go
               rfl
              refine pure_ (i := 11) (N := some 114) (v := undef) (a' := ?_) (b% 30 4095) rfl rfl (any_of HT_.out (by kernel_rfl)) (fun _ _ _ h => h) (Or.inr ⟨by rfl, rfl⟩) ?_ ?_
              rotate_left
              ·act_go
               rfl
              refine pure_ (i := 12) (N := some 115) (v := undef) (a' := ?_) (b% 30 8191) rfl rfl (any_of HT_.out (by kernel_rfl)) (fun _ _ _ h => h) (Or.inr ⟨by rfl, rfl⟩) ?_ ?_
              rotate_left
              ·act_go
               rfl
              refine pure_ (i := 13) (N := some 116) (v := undef) (a' := ?_) (b% 30 16383) rfl rfl (any_of HT_.out (by kernel_rfl)) (fun _ _ _ h => h) (Or.inr ⟨by rfl, rfl⟩) ?_ ?_
              rotate_left
              ·act_go
               rfl
              refine pure_ (i := 14) (N := some 117) (v := undef) (a' := ?_) (b% 30 32767) rfl rfl (any_of HT_.out (by kernel_rfl)) (fun _ _ _ h => h) (Or.inr ⟨by rfl, rfl⟩) ?_ ?_
              rotate_left
              ·act_go
               rfl
              refine pure_ (i := 15) (N := some 118) (v := undef) (a' := ?_) (b% 30 65535) rfl rfl (any_of HT_.out (by kernel_rfl)) (fun _ _ _ h => h) (Or.inr ⟨by rfl, rfl⟩) ?_ ?_
              rotate_left
              ·act_go
               rfl
              refine pure_ (i := 16) (N := some 119) (v := undef) (a' := ?_) (b% 30 131071) rfl rfl (any_of HT_.out (by kernel_rfl)) (fun _ _ _ h => h) (Or.inr ⟨by rfl, rfl⟩) ?_ ?_
              rotate_left
              ·act_go
               rfl
              refine pure_ (i := 17) (N := some 120) (v := undef) (a' := ?_) (b% 30 262143) rfl rfl (any_of HT_.out (by kernel_rfl)) (fun _ _ _ h => h) (Or.inr ⟨by rfl, rfl⟩) ?_ ?_
              rotate_left
              ·act_go
               rfl
              refine pure_ (i := 18) (N := some 121) (v := undef) (a' := ?_) (b% 30 524287) rfl rfl (any_of HT_.out (by kernel_rfl)) (fun _ _ _ h => h) (Or.inr ⟨by rfl, rfl⟩) ?_ ?_
              rotate_left
              ·act_go
               rfl
              refine pure_ (i := 19) (N := some 122) (v := undef) (a' := ?_) (b% 30 1048575) rfl rfl (any_of HT_.out (by kernel_rfl)) (fun _ _ _ h => h) (Or.inr ⟨by rfl, rfl⟩) ?_ ?_
              rotate_left
              ·act_go
               rfl
              refine pure_ (i := 20) (N := some 123) (v := undef) (a' := ?_) (b% 30 2097151) rfl rfl (any_of HT_.out (by kernel_rfl)) (fun _ _ _ h => h) (Or.inr ⟨by rfl, rfl⟩) ?_ ?_
              rotate_left
              ·act_go
               rfl
              refine pure_ (i := 21) (N := some 124) (v := undef) (a' := ?_) (b% 30 4194303) rfl rfl (any_of HT_.out (by kernel_rfl)) (fun _ _ _ h => h) (Or.inr ⟨by rfl, rfl⟩) ?_ ?_
              rotate_left
              ·act_go
               rfl
              refine pure_ (i := 22) (N := some 125) (v := undef) (a' := ?_) (b% 30 8388607) rfl rfl (any_of HT_.out (by kernel_rfl)) (fun _ _ _ h => h) (Or.inr ⟨by rfl, rfl⟩) ?_ ?_
              rotate_left
              ·act_go
               rfl
              refine pure_ (i := 23) (N := some 126) (v := undef) (a' := ?_) (b% 30 16777215) rfl rfl (any_of HT_.out (by kernel_rfl)) (fun _ _ _ h => h) (Or.inr ⟨by rfl, rfl⟩) ?_ ?_
              rotate_left
              ·act_go
               rfl
              refine pure_ (i := 24) (N := some 127) (v := undef) (a' := ?_) (b% 30 33554431) rfl rfl (any_of HT_.out (by kernel_rfl)) (fun _ _ _ h => h) (Or.inr ⟨by rfl, rfl⟩) ?_ ?_
              rotate_left
              ·act_go
               rfl
              refine pure_ (i := 25) (N := some 128) (v := undef) (a' := ?_) (b% 30 67108863) rfl rfl (any_of HT_.out (by kernel_rfl)) (fun _ _ _ h => h) (Or.inr ⟨by rfl, rfl⟩) ?_ ?_
              rotate_left
              ·act_go
               rfl
              refine pure_ (i := 26) (N := some 129) (v := undef) (a' := ?_) (b% 30 134217727) rfl rfl (any_of HT_.out (by kernel_rfl)) (fun _ _ _ h => h) (Or.inr ⟨by rfl, rfl⟩) ?_ ?_
              rotate_left
              ·act_go
               rfl
              refine pure_ (i := 27) (N := some 130) (v := undef) (a' := ?_) (b% 30 268435455) rfl rfl (any_of HT_.out (by kernel_rfl)) (fun _ _ _ h => h) (Or.inr ⟨by rfl, rfl⟩) ?_ ?_
              rotate_left
              ·act_go
               rfl
              refine pure_ (i := 28) (N := some 131) (v := undef) (a' := ?_) (b% 30 536870911) rfl rfl (any_of HT_.out (by kernel_rfl)) (fun _ _ _ h => h) (Or.inr ⟨by rfl, rfl⟩) ?_ ?_
              rotate_left
              ·act_go
               rfl
              pu_go HT_ 29 132 (b% 30 1073741823)
              refine done_ (done_of HT_.out (by kernel_rfl)) ?_
              try go_wp2
              go_roundg kj27
              case measure => have := HJ1.out; have := HK2.out; have := HJ13.out; have := HJ27.out; omega
              case rel => exact ⟨(wrap64 (x4_2 + 1)), (x250000_27), (x250001_27), (x250002_27), (x250003_27), (by first | rfl | (simp; done) | (simp [*]; done)), H', ⟨by have := HJ1.out; have := HK2.out; have := HJ13.out; have := HJ27.out; omega⟩, ⟨by repeat (first | (with_reducible first | exact HI249.out | apply IsS31.alloc | apply IsS31.drewN | apply IsS31.drew | apply IsS31.set_0 | apply IsS31.set_1 | apply IsS31.set_2 | apply IsS31.set_3 | refine IsS31.far ?_ NB249_262.out _) | exact HI249.out)⟩, ⟨by repeat (first | (with_reducible first | exact HB.out | apply below_alloc | apply pw_below_drewN | apply below_drew1 | refine below_set ?_ (IsS31.ge HI249.out) | refine below_set ?_ GE262.out) | exact HB.out)⟩⟩
       ·rw [if_neg c13] at H
        exact absurd H (by simp)
      ·rw [if_neg c10] at H
       have c10b0 : decide (x4_2 < (l0.length : Int)) = false := decide_eq_false c10
       clear c10
       obtain rfl := Option.some.inj H
       go_wp2
       go_ret
       exact ⟨by first | rfl | (simp [errW_none, errW_some] <;> rfl) | (simp [*, errW_none, errW_some] <;> rfl), by repeat (first | (with_reducible first | exact HB.out | apply below_alloc | apply pw_below_drewN | apply below_drew1 | refine below_set ?_ (IsS31.ge HI249.out)) | exact HB.out)⟩

/-- THE ONE PURE STATEMENT of conventiclelaw16_BallotTop: yours. -/
def conventiclelaw16_BallotTop.Pure : Prop := ∀ (l0 : List (S36)), (l0.length ≤ maxLen ∧ ∀ a ∈ l0, wf36 a) → ∃ k, conventiclelaw16_BallotTop.f k l0 = some true
theorem conventiclelaw16_BallotTop.walk (P : conventiclelaw16_BallotTop.Pure) (A0 : Option Addr) (c0 : Nat) (l0 : List (S36)) (w : World) (hr0 : Kd.C k36 w A0 l0.length l0) (hc0 : l0.length ≤ c0) (w0 : (l0.length ≤ maxLen ∧ ∀ a ∈ l0, wf36 a)) :
  Calls Try.prog 3 #[.slice A0 l0.length c0] w fun e w' => e = .returned (.bool true) ∧ Below w.heap.size w w' := by
 obtain ⟨k, h⟩ := P l0 w0
 refine (conventiclelaw16_BallotTop.calls k _ _ l0 true w hr0 hc0 h).mono ?_
 rintro e w' ⟨rfl, hd⟩
 exact ⟨rfl, hd⟩

end Go.Proofs.Ytnlppniejeemlaa.B
