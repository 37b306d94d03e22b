/- Texts of this claim, one behind the other (joined by pack.py): RSame SameLaw EncW EncR. -/
import Derived.Test.YtondgoabnmgcaaaKLetterEncodes16
import Derived.Test.YtondgoabnmgcaaaKLetterEncodes18
import Derived.Test.YtondgoabnmgcaaaKLetterEncodes11
import Derived.Test.YtondgoabnmgcaaaKLetterEncodes12
import Derived.Test.YtondgoabnmgcaaaKLetterEncodes7
import Derived.Test.YtondgoabnmgcaaaKLetterEncodes8
section
/- By hand: the reference's Same (printed by same12.py). -/
namespace Go.Proofs.Ytondgoabnmgcaaa.B
open Go.RowKit Go.Proofs.YtondgoabnmgcaaaW.PrintWords Go.Proofs.YtondgoabnmgcaaaW.PrintLast Go.Proofs.YtondgoabnmgcaaaW.PrintMore
open List renaming setIfInBounds_toArray → zA, set_cons_zero → zB, set_cons_succ → zC
open Bool renaming true → tt, false → ff
set_option linter.unusedSimpArgs false
set_option linter.unusedVariables false
attribute [local go_sem high] eqA27 eqA90
def rsame_T : Bool × List (List Nat × List Nat) := (true, [([], []), ([0], [0]), ([], []), ([2], [2]), ([1, 3], [1, 3]), ([4], [4]), ([5], [5]), ([6, 5], [5, 6]), ([5], [5]), ([8, 5], [5, 8]), ([7, 9, 5], [5, 7, 9]), ([5, 10], [5, 10]), ([11, 5], [11]), ([12], [12]), ([13, 12], [12, 13]), ([12], [12]), ([15, 12], [12, 15]), ([14, 16, 12], [12, 14, 16]), ([12, 17], [12, 17]), ([18, 12], [18]), ([19], [19]), ([20, 19], [19, 20]), ([19], [19]), ([22, 19], [19, 22]), ([21, 23, 19], [19, 21, 23]), ([19, 24], [19, 24]), ([25, 19], [25]), ([26], [26]), ([27, 26], [26, 27]), ([26], [26]), ([29, 26], [26, 29]), ([28, 30, 26], [26, 28, 30]), ([26, 31], [26, 31]), ([32, 26], [32]), ([33], [33]), ([34, 33], [33, 34]), ([33], [33]), ([36, 33], [33, 36]), ([35, 37, 33, 33], [33, 35, 37]), ([38, 33], [33, 38]), ([33, 39], [33, 39]), ([40, 38], [40]), ([41], [41]), ([42, 41], [41, 42]), ([41], [41]), ([44, 41], [41, 44]), ([43, 45, 41], [41, 43, 45]), ([41, 46], [41, 46]), ([47, 41], [47]), ([48], [48]), ([49, 48], [48, 49]), ([48], [48]), ([51, 48], [48, 51]), ([50, 52, 48], [48, 50, 52]), ([48, 53], [48, 53]), ([54, 48], [54]), ([55], [55]), ([56, 55], [55, 56]), ([55], [55]), ([58, 55], [55, 58]), ([57, 59, 55], [55, 57, 59]), ([55, 60], [55, 60]), ([61, 55], [61]), ([62], [62]), ([63, 62], [62, 63]), ([62], [62]), ([65, 62], [62, 65]), ([64, 66, 62], [62, 64, 66]), ([62, 67], [62, 67]), ([68, 62], [68]), ([69], [69]), ([70, 69], [69, 70]), ([69], [69]), ([72, 69], [69, 72]), ([71, 73, 69], [69, 71, 73]), ([69, 74], [69, 74]), ([75, 69], [75]), ([76], [76]), ([77, 76], [76, 77]), ([78, 76], [76, 78]), ([76], [76]), ([80, 76], [76, 80]), ([81, 76], [76, 81]), ([79, 82, 76], [76, 79, 82]), ([76, 83], [76, 83]), ([84, 76], [84]), ([85], [85]), ([86, 85], [85, 86]), ([85], [85]), ([88, 85], [85, 88]), ([87, 89, 85, 85], [85, 87, 89]), ([90, 85], [85, 90]), ([85, 91], [85, 91]), ([92, 90], [92]), ([93], [93]), ([94, 93], [93, 94]), ([95, 93, 93], [93, 95]), ([93], [93]), ([97, 93], [93, 97]), ([98, 96, 93], [93, 98]), ([96, 99, 93], [93, 96, 99]), ([93, 100], [93, 100])])
def rsame_B : List Nat := [0, 1, 0, 4, 15, 31, 63, 127, 63, 319, 1023, 2047, 4095, 8191, 16383, 8191, 40959, 131071, 262143, 524287, 1048575, 2097151, 1048575, 5242879, 16777215, 33554431, 67108863, 134217727, 268435455, 134217727, 671088639, 2147483647, 4294967295, 8589934591, 17179869183, 34359738367, 17179869183, 85899345919, 274877906943, 549755813887, 1099511627775, 2199023255551, 4398046511103, 8796093022207, 4398046511103, 21990232555519, 70368744177663, 140737488355327, 281474976710655, 562949953421311, 1125899906842623, 562949953421311, 2814749767106559, 9007199254740991, 18014398509481983, 36028797018963967, 72057594037927935, 144115188075855871, 72057594037927935, 360287970189639679, 1152921504606846975, 2305843009213693951, 4611686018427387903, 9223372036854775807, 18446744073709551615, 9223372036854775807, 46116860184273879039, 147573952589676412927, 295147905179352825855, 590295810358705651711, 1180591620717411303423, 2361183241434822606847, 1180591620717411303423, 5902958103587056517119, 18889465931478580854783, 37778931862957161709567, 75557863725914323419135, 151115727451828646838271, 302231454903657293676543, 604462909807314587353087, 151115727451828646838271, 1360041547066457821544447, 3777893186295716170956799, 9671406556917033397649407, 19342813113834066795298815, 38685626227668133590597631, 77371252455336267181195263, 154742504910672534362390527, 77371252455336267181195263, 386856262276681335905976319, 1237940039285380274899124223, 2475880078570760549798248447, 4951760157141521099596496895, 9903520314283042199192993791, 19807040628566084398385987583, 39614081257132168796771975167, 79228162514264337593543950335, 19807040628566084398385987583, 178263365657094759585473888255, 633825300114114700748351602687, 1267650600228229401496703205375, 2535301200456458802993406410751]
theorem rsame_tab : rtab .any (opsOf Try.f12 1) = rsame_T := by kernel_rfl
theorem rsame_bits : waitsOk rsame_T.2 rsame_B = true := by kernel_rfl
def eq90 (u v : S90) : Bool := (u.f0 == v.f0) && ((u.f1.f0 == v.f1.f0) && ((u.f1.f1 == v.f1.f1) && (u.f1.f2.toList == v.f1.f2.toList)))
theorem bothN_ {P : Program} {ops : Array Oper} {Q : Exit → Act → World → Prop} {oi : Oper} {a : Act} {w : World} {K : Act → World → Prop} {N : Option Tmp} {v : Value} {b : Bool} {S : World → Prop}
  (hf : b = true → Region.wanted oi (yielded ops a.tmps) = false)
  (ht : b = false → ∀ K' : Act → World → Prop, (∀ w', S w' → K' (a.put N v) w') → if Region.wanted oi (yielded ops a.tmps) = true then Oper.wp P oi a w K' Q else K' (a.put N undef) w)
  (hS : S w) (h : ∀ w', S w' → K (a.put N (if b = true then undef else v)) w') : if Region.wanted oi (yielded ops a.tmps) = true then Oper.wp P oi a w K Q else K (a.put N undef) w := by
 cases b
 ·exact ht rfl K (fun w' hw => h w' hw)
 ·rw [hf rfl]
  exact h w hS
set_option maxRecDepth 100000 in
set_option maxHeartbeats 16000000 in
theorem rsame_at (a0 a1 a2 a3 a4 : Int) (Ax5 : Option Addr) (nx5 : Nat) (lx5 : List S70) (a6 a7 a8 a9 a10 a11 a12 : Int) (Ax13 : Option Addr) (nx13 : Nat) (lx13 : List S90) (Ax14 : Option Addr) (nx14 : Nat) (lx14 : List S77) (a15 : Nat) (c0 c1 c2 c3 c4 : Int) (Ay5 : Option Addr) (ny5 : Nat) (ly5 : List S70) (c6 c7 c8 c9 c10 c11 c12 : Int) (Ay13 : Option Addr) (ny13 : Nat) (ly13 : List S90) (Ay14 : Option Addr) (ny14 : Nat) (ly14 : List S77) (c15 : Nat) (w : World) (hx5 : Kd.C k70 w Ax5 lx5.length lx5) (mx5 : lx5.length ≤ nx5) (hx13 : Kd.C k90 w Ax13 lx13.length lx13) (mx13 : lx13.length ≤ nx13) (hx14 : Kd.C k77 w Ax14 lx14.length lx14) (mx14 : lx14.length ≤ nx14) (hy5 : Kd.C k70 w Ay5 ly5.length ly5) (my5 : ly5.length ≤ ny5) (hy13 : Kd.C k90 w Ay13 ly13.length ly13) (my13 : ly13.length ≤ ny13) (hy14 : Kd.C k77 w Ay14 ly14.length ly14) (my14 : ly14.length ≤ ny14) :
  Calls Try.prog 12 #[.agg #[.int .i64 a0, .int .i64 a1, .int .i64 a2, .int .u64 a3, .int .i64 a4, .slice Ax5 lx5.length nx5, .int .u64 a6, .int .u64 a7, .int .u64 a8, .int .u64 a9, .int .u64 a10, .int .u64 a11, .int .u64 a12, .slice Ax13 lx13.length nx13, .slice Ax14 lx14.length nx14, .float .f64 a15], .agg #[.int .i64 c0, .int .i64 c1, .int .i64 c2, .int .u64 c3, .int .i64 c4, .slice Ay5 ly5.length ny5, .int .u64 c6, .int .u64 c7, .int .u64 c8, .int .u64 c9, .int .u64 c10, .int .u64 c11, .int .u64 c12, .slice Ay13 ly13.length ny13, .slice Ay14 ly14.length ny14, .float .f64 c15]] w fun e w' => e = .returned (.bool (!(((((((((((((((a0 != c0) || (a1 != c1)) || (a2 != c2)) || (a3 != c3)) || (a4 != c4)) || (!eqL eqU lx5 ly5)) || (!(a6 == c6 && (a7 == c7)))) || (a8 != c8)) || (a9 != c9)) || (!(a10 == c10 && (a11 == c11)))) || (a12 != c12)) || ((lx13.length : Int) != (ly13.length : Int))) || (!eqL eqX lx14 ly14)) || ((a15 : Int) != (c15 : Int)))) && eqL eq90 lx13 ly13)) ∧ Below w.heap.size w w' := by
 have Hx5 := Aside0.mk hx5
 have Mx5 := Aside0.mk mx5
 have Hx13 := Aside0.mk hx13
 have Mx13 := Aside0.mk mx13
 have Hx14 := Aside0.mk hx14
 have Mx14 := Aside0.mk mx14
 have Hy5 := Aside0.mk hy5
 have My5 := Aside0.mk my5
 have Hy13 := Aside0.mk hy13
 have My13 := Aside0.mk my13
 have Hy14 := Aside0.mk hy14
 have My14 := Aside0.mk my14
 have f5 := conventicleref07_Same_is lx5 ly5 (by have := hx5.2.1; omega)
 generalize eqL eqU lx5 ly5 = r5 at f5 ⊢
 have F5 := Aside0.mk f5
 have f14 := conventicleref12_Same_is lx14 ly14 (by have := hx14.2.1; omega)
 generalize eqL eqX lx14 ly14 = r14 at f14 ⊢
 have F14 := Aside0.mk f14
 clear hx5 mx5 hx13 mx13 hx14 mx14 hy5 my5 hy13 my13 hy14 my14 f5 f14
 go_enter Try.func12, Try.ntmps12
 go_upto_region 1 with (first
  | ((with_reducible refine gate_dst (N := 2) rfl ?_); refine box_event ?hg (N := 2) ?hd (cs := #[.int .i64 a0, .int .i64 a1, .int .i64 a2, .int .u64 a3, .int .i64 a4, .slice Ax5 lx5.length nx5, .int .u64 a6, .int .u64 a7, .int .u64 a8, .int .u64 a9, .int .u64 a10, .int .u64 a11, .int .u64 a12, .slice Ax13 lx13.length nx13, .slice Ax14 lx14.length nx14, .float .f64 a15]) (t := 38) ?hr ?_; (case hd => rfl); (case hg => rfl); (case hr => first | (go_simp; done) | (go_simp; rfl)); intro g2 hg_ w1 hb_ hB_; have K2a := Aside0.mk hb_; have B1 := Aside0.mk hB_; clear hg_ hb_ hB_)
  | ((with_reducible refine gate_dst (N := 3) rfl ?_); refine box_event ?hg (N := 3) ?hd (cs := #[.int .i64 c0, .int .i64 c1, .int .i64 c2, .int .u64 c3, .int .i64 c4, .slice Ay5 ly5.length ny5, .int .u64 c6, .int .u64 c7, .int .u64 c8, .int .u64 c9, .int .u64 c10, .int .u64 c11, .int .u64 c12, .slice Ay13 ly13.length ny13, .slice Ay14 ly14.length ny14, .float .f64 c15]) (t := 38) ?hr ?_; (case hd => rfl); (case hg => rfl); (case hr => first | (go_simp; done) | (go_simp; rfl)); intro g3 hg_ w2 hb_ hB_; have K3a := Aside0.mk hb_; have K2b := Aside0.mk (blk_below K2a.out hB_); have B2 := Aside0.mk (below_step B1.out hB_); clear hg_ hb_ hB_ K2a B1))
 refine start_ (n := 102) (S := fun w' => Below w2.drew.heap.size w2.drew w') (ds := []) #[ff,ff,ff,ff,ff,ff,ff,ff,ff,ff,ff,ff,ff,ff,ff,ff,ff,ff,ff,ff,ff,ff,ff,ff,ff,ff,ff,ff,ff,ff,ff,ff,ff,ff,ff,ff,ff,ff,ff,ff,ff,ff,ff,ff,ff,ff,ff,ff,ff,ff,ff,ff,ff,ff,ff,ff,ff,ff,ff,ff,ff,ff,ff,ff,ff,ff,ff,ff,ff,ff,ff,ff,ff,ff,ff,ff,ff,ff,ff,ff,ff,ff,ff,ff,ff,ff,ff,ff,ff,ff,ff,ff,ff,ff,ff,ff,ff,ff,ff,ff,ff,ff] (by kernel_rfl) rfl rfl (Below.refl _ _) (fun hHeld => ?_)
 have K2 := Aside0.mk (blk_drew K2b.out)
 have K3 := Aside0.mk (blk_drew K3a.out)
 have BD := Aside0.mk (below_drew1 B2.out)
 have hx5 := Aside0.mk (Kd.C_below Hx5.out BD.out)
 have hx13 := Aside0.mk (Kd.C_below Hx13.out BD.out)
 have hx14 := Aside0.mk (Kd.C_below Hx14.out BD.out)
 have hy5 := Aside0.mk (Kd.C_below Hy5.out BD.out)
 have hy13 := Aside0.mk (Kd.C_below Hy13.out BD.out)
 have hy14 := Aside0.mk (Kd.C_below Hy14.out BD.out)
 clear K2b K3a B2 Hx5 Hx13 Hx14 Hy5 Hy13 Hy14
 have Hx5 := hx5
 have Hx13 := hx13
 have Hx14 := hx14
 have Hy5 := hy5
 have Hy13 := hy13
 have Hy14 := hy14
 clear hx5 hx13 hx14 hy5 hy13 hy14
 generalize w2.drew = wd at K2 K3 BD hHeld Hx5 Hx13 Hx14 Hy5 Hy13 Hy14 ⊢
 refine with_tabW rsame_tab rsame_bits (fun HT_ HW_ => ?_)
 refine pure_ (i := 0) (N := some 6) (v := .pointer (some ⟨g2, 0, none⟩)) (a' := ?_) #[tt,ff,ff,ff,ff,ff,ff,ff,ff,ff,ff,ff,ff,ff,ff,ff,ff,ff,ff,ff,ff,ff,ff,ff,ff,ff,ff,ff,ff,ff,ff,ff,ff,ff,ff,ff,ff,ff,ff,ff,ff,ff,ff,ff,ff,ff,ff,ff,ff,ff,ff,ff,ff,ff,ff,ff,ff,ff,ff,ff,ff,ff,ff,ff,ff,ff,ff,ff,ff,ff,ff,ff,ff,ff,ff,ff,ff,ff,ff,ff,ff,ff,ff,ff,ff,ff,ff,ff,ff,ff,ff,ff,ff,ff,ff,ff,ff,ff,ff,ff,ff,ff] rfl rfl (any_of HT_.out (by kernel_rfl)) (fun _ _ _ h => h) (Or.inl ⟨by rfl, ?_⟩) ?_ ?_
 ·(intro w'; go_simp; try rfl)
 rotate_left
 ·(simp only [Act.put,zA,zB,zC,i64_w,i32_w]; rfl)
 refine take_ (i := 1) (N := some 7) (v := .int .i64 a0) (a' := ?_) #[tt,tt,ff,ff,ff,ff,ff,ff,ff,ff,ff,ff,ff,ff,ff,ff,ff,ff,ff,ff,ff,ff,ff,ff,ff,ff,ff,ff,ff,ff,ff,ff,ff,ff,ff,ff,ff,ff,ff,ff,ff,ff,ff,ff,ff,ff,ff,ff,ff,ff,ff,ff,ff,ff,ff,ff,ff,ff,ff,ff,ff,ff,ff,ff,ff,ff,ff,ff,ff,ff,ff,ff,ff,ff,ff,ff,ff,ff,ff,ff,ff,ff,ff,ff,ff,ff,ff,ff,ff,ff,ff,ff,ff,ff,ff,ff,ff,ff,ff,ff,ff,ff] rfl rfl (take_ofW HT_.out HW_.out (by kernel_rfl)) (fun _ _ _ h => h) (Or.inl ⟨by rfl, ?_⟩) hHeld ?_ ?_
 ·(intro w' s0; have xq := (blk_cell (blk_below K2.out s0) 0).trans rfl; go_simp; try rfl)
 rotate_left
 ·(simp only [Act.put,zA,zB,zC,i64_w,i32_w]; rfl)
 refine pure_ (i := 2) (N := some 8) (v := .pointer (some ⟨g3, 0, none⟩)) (a' := ?_) #[tt,tt,tt,ff,ff,ff,ff,ff,ff,ff,ff,ff,ff,ff,ff,ff,ff,ff,ff,ff,ff,ff,ff,ff,ff,ff,ff,ff,ff,ff,ff,ff,ff,ff,ff,ff,ff,ff,ff,ff,ff,ff,ff,ff,ff,ff,ff,ff,ff,ff,ff,ff,ff,ff,ff,ff,ff,ff,ff,ff,ff,ff,ff,ff,ff,ff,ff,ff,ff,ff,ff,ff,ff,ff,ff,ff,ff,ff,ff,ff,ff,ff,ff,ff,ff,ff,ff,ff,ff,ff,ff,ff,ff,ff,ff,ff,ff,ff,ff,ff,ff,ff] rfl rfl (any_of HT_.out (by kernel_rfl)) (fun _ _ _ h => h) (Or.inl ⟨by rfl, ?_⟩) ?_ ?_
 ·(intro w'; go_simp; try rfl)
 rotate_left
 ·(simp only [Act.put,zA,zB,zC,i64_w,i32_w]; rfl)
 refine take_ (i := 3) (N := some 9) (v := .int .i64 c0) (a' := ?_) #[tt,tt,tt,tt,ff,ff,ff,ff,ff,ff,ff,ff,ff,ff,ff,ff,ff,ff,ff,ff,ff,ff,ff,ff,ff,ff,ff,ff,ff,ff,ff,ff,ff,ff,ff,ff,ff,ff,ff,ff,ff,ff,ff,ff,ff,ff,ff,ff,ff,ff,ff,ff,ff,ff,ff,ff,ff,ff,ff,ff,ff,ff,ff,ff,ff,ff,ff,ff,ff,ff,ff,ff,ff,ff,ff,ff,ff,ff,ff,ff,ff,ff,ff,ff,ff,ff,ff,ff,ff,ff,ff,ff,ff,ff,ff,ff,ff,ff,ff,ff,ff,ff] rfl rfl (take_ofW HT_.out HW_.out (by kernel_rfl)) (fun _ _ _ h => h) (Or.inl ⟨by rfl, ?_⟩) hHeld ?_ ?_
 ·(intro w' s0; have xq := (blk_cell (blk_below K3.out s0) 0).trans rfl; go_simp; try rfl)
 rotate_left
 ·(simp only [Act.put,zA,zB,zC,i64_w,i32_w]; rfl)
 refine pure_ (i := 4) (N := some 10) (v := .bool (a0 != c0)) (a' := ?_) #[tt,tt,tt,tt,tt,ff,ff,ff,ff,ff,ff,ff,ff,ff,ff,ff,ff,ff,ff,ff,ff,ff,ff,ff,ff,ff,ff,ff,ff,ff,ff,ff,ff,ff,ff,ff,ff,ff,ff,ff,ff,ff,ff,ff,ff,ff,ff,ff,ff,ff,ff,ff,ff,ff,ff,ff,ff,ff,ff,ff,ff,ff,ff,ff,ff,ff,ff,ff,ff,ff,ff,ff,ff,ff,ff,ff,ff,ff,ff,ff,ff,ff,ff,ff,ff,ff,ff,ff,ff,ff,ff,ff,ff,ff,ff,ff,ff,ff,ff,ff,ff,ff] rfl rfl (any_of HT_.out (by kernel_rfl)) (fun _ _ _ h => h) (Or.inl ⟨by rfl, ?_⟩) ?_ ?_
 ·(intro w'; go_simp; try rfl)
 rotate_left
 ·(simp only [Act.put,zA,zB,zC,i64_w,i32_w]; rfl)
 generalize hb0 : (a0 != c0) = b0
 have Hb0 := Aside0.mk hb0
 clear hb0
 refine pure_ (i := 5) (N := some 11) (v := .bool b0) (a' := ?_) #[tt,tt,tt,tt,tt,tt,ff,ff,ff,ff,ff,ff,ff,ff,ff,ff,ff,ff,ff,ff,ff,ff,ff,ff,ff,ff,ff,ff,ff,ff,ff,ff,ff,ff,ff,ff,ff,ff,ff,ff,ff,ff,ff,ff,ff,ff,ff,ff,ff,ff,ff,ff,ff,ff,ff,ff,ff,ff,ff,ff,ff,ff,ff,ff,ff,ff,ff,ff,ff,ff,ff,ff,ff,ff,ff,ff,ff,ff,ff,ff,ff,ff,ff,ff,ff,ff,ff,ff,ff,ff,ff,ff,ff,ff,ff,ff,ff,ff,ff,ff,ff,ff] rfl rfl (any_of HT_.out (by kernel_rfl)) (fun _ _ _ h => h) (Or.inl ⟨by rfl, ?_⟩) ?_ ?_
 ·(intro w'; go_simp; try rfl)
 rotate_left
 ·(simp only [Act.put,zA,zB,zC,i64_w,i32_w]; rfl)
 refine pure_ (i := 6) (N := some 12) (v := if b0 = true then undef else .pointer (some ⟨g2, 1, none⟩)) (a' := ?_) #[tt,tt,tt,tt,tt,tt,tt,ff,ff,ff,ff,ff,ff,ff,ff,ff,ff,ff,ff,ff,ff,ff,ff,ff,ff,ff,ff,ff,ff,ff,ff,ff,ff,ff,ff,ff,ff,ff,ff,ff,ff,ff,ff,ff,ff,ff,ff,ff,ff,ff,ff,ff,ff,ff,ff,ff,ff,ff,ff,ff,ff,ff,ff,ff,ff,ff,ff,ff,ff,ff,ff,ff,ff,ff,ff,ff,ff,ff,ff,ff,ff,ff,ff,ff,ff,ff,ff,ff,ff,ff,ff,ff,ff,ff,ff,ff,ff,ff,ff,ff,ff,ff] rfl rfl (any_of HT_.out (by kernel_rfl)) (fun _ _ _ h => h) ?_ ?_ ?_
 ·cases b0
  ·(refine Or.inl ⟨by rfl, ?_⟩; intro w'; go_simp; try rfl)
  ·exact Or.inr ⟨by rfl, rfl⟩
 rotate_left
 ·(simp only [Act.put,zA,zB,zC,i64_w,i32_w]; rfl)
 refine take_ (i := 7) (N := some 13) (v := if b0 = true then undef else .int .i64 a1) (a' := ?_) #[tt,tt,tt,tt,tt,tt,tt,tt,ff,ff,ff,ff,ff,ff,ff,ff,ff,ff,ff,ff,ff,ff,ff,ff,ff,ff,ff,ff,ff,ff,ff,ff,ff,ff,ff,ff,ff,ff,ff,ff,ff,ff,ff,ff,ff,ff,ff,ff,ff,ff,ff,ff,ff,ff,ff,ff,ff,ff,ff,ff,ff,ff,ff,ff,ff,ff,ff,ff,ff,ff,ff,ff,ff,ff,ff,ff,ff,ff,ff,ff,ff,ff,ff,ff,ff,ff,ff,ff,ff,ff,ff,ff,ff,ff,ff,ff,ff,ff,ff,ff,ff,ff] rfl rfl (take_ofW HT_.out HW_.out (by kernel_rfl)) (fun _ _ _ h => h) ?_ hHeld ?_ ?_
 ·cases b0
  ·(refine Or.inl ⟨by rfl, ?_⟩; intro w' s0; have xq := (blk_cell (blk_below K2.out s0) 1).trans rfl; go_simp; try rfl)
  ·exact Or.inr ⟨by rfl, rfl⟩
 rotate_left
 ·(simp only [Act.put,zA,zB,zC,i64_w,i32_w]; rfl)
 refine pure_ (i := 8) (N := some 14) (v := if b0 = true then undef else .pointer (some ⟨g3, 1, none⟩)) (a' := ?_) #[tt,tt,tt,tt,tt,tt,tt,tt,tt,ff,ff,ff,ff,ff,ff,ff,ff,ff,ff,ff,ff,ff,ff,ff,ff,ff,ff,ff,ff,ff,ff,ff,ff,ff,ff,ff,ff,ff,ff,ff,ff,ff,ff,ff,ff,ff,ff,ff,ff,ff,ff,ff,ff,ff,ff,ff,ff,ff,ff,ff,ff,ff,ff,ff,ff,ff,ff,ff,ff,ff,ff,ff,ff,ff,ff,ff,ff,ff,ff,ff,ff,ff,ff,ff,ff,ff,ff,ff,ff,ff,ff,ff,ff,ff,ff,ff,ff,ff,ff,ff,ff,ff] rfl rfl (any_of HT_.out (by kernel_rfl)) (fun _ _ _ h => h) ?_ ?_ ?_
 ·cases b0
  ·(refine Or.inl ⟨by rfl, ?_⟩; intro w'; go_simp; try rfl)
  ·exact Or.inr ⟨by rfl, rfl⟩
 rotate_left
 ·(simp only [Act.put,zA,zB,zC,i64_w,i32_w]; rfl)
 refine take_ (i := 9) (N := some 15) (v := if b0 = true then undef else .int .i64 c1) (a' := ?_) #[tt,tt,tt,tt,tt,tt,tt,tt,tt,tt,ff,ff,ff,ff,ff,ff,ff,ff,ff,ff,ff,ff,ff,ff,ff,ff,ff,ff,ff,ff,ff,ff,ff,ff,ff,ff,ff,ff,ff,ff,ff,ff,ff,ff,ff,ff,ff,ff,ff,ff,ff,ff,ff,ff,ff,ff,ff,ff,ff,ff,ff,ff,ff,ff,ff,ff,ff,ff,ff,ff,ff,ff,ff,ff,ff,ff,ff,ff,ff,ff,ff,ff,ff,ff,ff,ff,ff,ff,ff,ff,ff,ff,ff,ff,ff,ff,ff,ff,ff,ff,ff,ff] rfl rfl (take_ofW HT_.out HW_.out (by kernel_rfl)) (fun _ _ _ h => h) ?_ hHeld ?_ ?_
 ·cases b0
  ·(refine Or.inl ⟨by rfl, ?_⟩; intro w' s0; have xq := (blk_cell (blk_below K3.out s0) 1).trans rfl; go_simp; try rfl)
  ·exact Or.inr ⟨by rfl, rfl⟩
 rotate_left
 ·(simp only [Act.put,zA,zB,zC,i64_w,i32_w]; rfl)
 refine pure_ (i := 10) (N := some 16) (v := if b0 = true then undef else .bool (a1 != c1)) (a' := ?_) #[tt,tt,tt,tt,tt,tt,tt,tt,tt,tt,tt,ff,ff,ff,ff,ff,ff,ff,ff,ff,ff,ff,ff,ff,ff,ff,ff,ff,ff,ff,ff,ff,ff,ff,ff,ff,ff,ff,ff,ff,ff,ff,ff,ff,ff,ff,ff,ff,ff,ff,ff,ff,ff,ff,ff,ff,ff,ff,ff,ff,ff,ff,ff,ff,ff,ff,ff,ff,ff,ff,ff,ff,ff,ff,ff,ff,ff,ff,ff,ff,ff,ff,ff,ff,ff,ff,ff,ff,ff,ff,ff,ff,ff,ff,ff,ff,ff,ff,ff,ff,ff,ff] rfl rfl (any_of HT_.out (by kernel_rfl)) (fun _ _ _ h => h) ?_ ?_ ?_
 ·cases b0
  ·(refine Or.inl ⟨by rfl, ?_⟩; intro w'; go_simp; try rfl)
  ·exact Or.inr ⟨by rfl, rfl⟩
 rotate_left
 ·(simp only [Act.put,zA,zB,zC,i64_w,i32_w]; rfl)
 refine pure_ (i := 11) (N := some 17) (v := .bool (b0 || (a1 != c1))) (a' := ?_) #[tt,tt,tt,tt,tt,tt,tt,tt,tt,tt,tt,tt,ff,ff,ff,ff,ff,ff,ff,ff,ff,ff,ff,ff,ff,ff,ff,ff,ff,ff,ff,ff,ff,ff,ff,ff,ff,ff,ff,ff,ff,ff,ff,ff,ff,ff,ff,ff,ff,ff,ff,ff,ff,ff,ff,ff,ff,ff,ff,ff,ff,ff,ff,ff,ff,ff,ff,ff,ff,ff,ff,ff,ff,ff,ff,ff,ff,ff,ff,ff,ff,ff,ff,ff,ff,ff,ff,ff,ff,ff,ff,ff,ff,ff,ff,ff,ff,ff,ff,ff,ff,ff] rfl rfl (any_of HT_.out (by kernel_rfl)) (fun _ _ _ h => h) (Or.inl ⟨by rfl, ?_⟩) ?_ ?_
 ·(intro w'; cases b0 <;> go_simp; try rfl)
 rotate_left
 ·(simp only [Act.put,zA,zB,zC,i64_w,i32_w]; rfl)
 (try generalize (if b0 = true then undef else .pointer (some ⟨g2, 1, none⟩)) = x0_1)
 (try generalize (if b0 = true then undef else .int .i64 a1) = x1_1)
 (try generalize (if b0 = true then undef else .pointer (some ⟨g3, 1, none⟩)) = x2_1)
 (try generalize (if b0 = true then undef else .int .i64 c1) = x3_1)
 (try generalize (if b0 = true then undef else .bool (a1 != c1)) = x4_1)
 generalize hb1 : (b0 || (a1 != c1)) = b1
 have Hb1 := Aside0.mk hb1
 clear hb1
 refine pure_ (i := 12) (N := some 18) (v := .bool b1) (a' := ?_) #[tt,tt,tt,tt,tt,tt,tt,tt,tt,tt,tt,tt,tt,ff,ff,ff,ff,ff,ff,ff,ff,ff,ff,ff,ff,ff,ff,ff,ff,ff,ff,ff,ff,ff,ff,ff,ff,ff,ff,ff,ff,ff,ff,ff,ff,ff,ff,ff,ff,ff,ff,ff,ff,ff,ff,ff,ff,ff,ff,ff,ff,ff,ff,ff,ff,ff,ff,ff,ff,ff,ff,ff,ff,ff,ff,ff,ff,ff,ff,ff,ff,ff,ff,ff,ff,ff,ff,ff,ff,ff,ff,ff,ff,ff,ff,ff,ff,ff,ff,ff,ff,ff] rfl rfl (any_of HT_.out (by kernel_rfl)) (fun _ _ _ h => h) (Or.inl ⟨by rfl, ?_⟩) ?_ ?_
 ·(intro w'; go_simp; try rfl)
 rotate_left
 ·(simp only [Act.put,zA,zB,zC,i64_w,i32_w]; rfl)
 refine pure_ (i := 13) (N := some 19) (v := if b1 = true then undef else .pointer (some ⟨g2, 2, none⟩)) (a' := ?_) #[tt,tt,tt,tt,tt,tt,tt,tt,tt,tt,tt,tt,tt,tt,ff,ff,ff,ff,ff,ff,ff,ff,ff,ff,ff,ff,ff,ff,ff,ff,ff,ff,ff,ff,ff,ff,ff,ff,ff,ff,ff,ff,ff,ff,ff,ff,ff,ff,ff,ff,ff,ff,ff,ff,ff,ff,ff,ff,ff,ff,ff,ff,ff,ff,ff,ff,ff,ff,ff,ff,ff,ff,ff,ff,ff,ff,ff,ff,ff,ff,ff,ff,ff,ff,ff,ff,ff,ff,ff,ff,ff,ff,ff,ff,ff,ff,ff,ff,ff,ff,ff,ff] rfl rfl (any_of HT_.out (by kernel_rfl)) (fun _ _ _ h => h) ?_ ?_ ?_
 ·cases b1
  ·(refine Or.inl ⟨by rfl, ?_⟩; intro w'; go_simp; try rfl)
  ·exact Or.inr ⟨by rfl, rfl⟩
 rotate_left
 ·(simp only [Act.put,zA,zB,zC,i64_w,i32_w]; rfl)
 refine take_ (i := 14) (N := some 20) (v := if b1 = true then undef else .int .i64 a2) (a' := ?_) #[tt,tt,tt,tt,tt,tt,tt,tt,tt,tt,tt,tt,tt,tt,tt,ff,ff,ff,ff,ff,ff,ff,ff,ff,ff,ff,ff,ff,ff,ff,ff,ff,ff,ff,ff,ff,ff,ff,ff,ff,ff,ff,ff,ff,ff,ff,ff,ff,ff,ff,ff,ff,ff,ff,ff,ff,ff,ff,ff,ff,ff,ff,ff,ff,ff,ff,ff,ff,ff,ff,ff,ff,ff,ff,ff,ff,ff,ff,ff,ff,ff,ff,ff,ff,ff,ff,ff,ff,ff,ff,ff,ff,ff,ff,ff,ff,ff,ff,ff,ff,ff,ff] rfl rfl (take_ofW HT_.out HW_.out (by kernel_rfl)) (fun _ _ _ h => h) ?_ hHeld ?_ ?_
 ·cases b1
  ·(refine Or.inl ⟨by rfl, ?_⟩; intro w' s0; have xq := (blk_cell (blk_below K2.out s0) 2).trans rfl; go_simp; try rfl)
  ·exact Or.inr ⟨by rfl, rfl⟩
 rotate_left
 ·(simp only [Act.put,zA,zB,zC,i64_w,i32_w]; rfl)
 refine pure_ (i := 15) (N := some 21) (v := if b1 = true then undef else .pointer (some ⟨g3, 2, none⟩)) (a' := ?_) #[tt,tt,tt,tt,tt,tt,tt,tt,tt,tt,tt,tt,tt,tt,tt,tt,ff,ff,ff,ff,ff,ff,ff,ff,ff,ff,ff,ff,ff,ff,ff,ff,ff,ff,ff,ff,ff,ff,ff,ff,ff,ff,ff,ff,ff,ff,ff,ff,ff,ff,ff,ff,ff,ff,ff,ff,ff,ff,ff,ff,ff,ff,ff,ff,ff,ff,ff,ff,ff,ff,ff,ff,ff,ff,ff,ff,ff,ff,ff,ff,ff,ff,ff,ff,ff,ff,ff,ff,ff,ff,ff,ff,ff,ff,ff,ff,ff,ff,ff,ff,ff,ff] rfl rfl (any_of HT_.out (by kernel_rfl)) (fun _ _ _ h => h) ?_ ?_ ?_
 ·cases b1
  ·(refine Or.inl ⟨by rfl, ?_⟩; intro w'; go_simp; try rfl)
  ·exact Or.inr ⟨by rfl, rfl⟩
 rotate_left
 ·(simp only [Act.put,zA,zB,zC,i64_w,i32_w]; rfl)
 refine take_ (i := 16) (N := some 22) (v := if b1 = true then undef else .int .i64 c2) (a' := ?_) #[tt,tt,tt,tt,tt,tt,tt,tt,tt,tt,tt,tt,tt,tt,tt,tt,tt,ff,ff,ff,ff,ff,ff,ff,ff,ff,ff,ff,ff,ff,ff,ff,ff,ff,ff,ff,ff,ff,ff,ff,ff,ff,ff,ff,ff,ff,ff,ff,ff,ff,ff,ff,ff,ff,ff,ff,ff,ff,ff,ff,ff,ff,ff,ff,ff,ff,ff,ff,ff,ff,ff,ff,ff,ff,ff,ff,ff,ff,ff,ff,ff,ff,ff,ff,ff,ff,ff,ff,ff,ff,ff,ff,ff,ff,ff,ff,ff,ff,ff,ff,ff,ff] rfl rfl (take_ofW HT_.out HW_.out (by kernel_rfl)) (fun _ _ _ h => h) ?_ hHeld ?_ ?_
 ·cases b1
  ·(refine Or.inl ⟨by rfl, ?_⟩; intro w' s0; have xq := (blk_cell (blk_below K3.out s0) 2).trans rfl; go_simp; try rfl)
  ·exact Or.inr ⟨by rfl, rfl⟩
 rotate_left
 ·(simp only [Act.put,zA,zB,zC,i64_w,i32_w]; rfl)
 refine pure_ (i := 17) (N := some 23) (v := if b1 = true then undef else .bool (a2 != c2)) (a' := ?_) #[tt,tt,tt,tt,tt,tt,tt,tt,tt,tt,tt,tt,tt,tt,tt,tt,tt,tt,ff,ff,ff,ff,ff,ff,ff,ff,ff,ff,ff,ff,ff,ff,ff,ff,ff,ff,ff,ff,ff,ff,ff,ff,ff,ff,ff,ff,ff,ff,ff,ff,ff,ff,ff,ff,ff,ff,ff,ff,ff,ff,ff,ff,ff,ff,ff,ff,ff,ff,ff,ff,ff,ff,ff,ff,ff,ff,ff,ff,ff,ff,ff,ff,ff,ff,ff,ff,ff,ff,ff,ff,ff,ff,ff,ff,ff,ff,ff,ff,ff,ff,ff,ff] rfl rfl (any_of HT_.out (by kernel_rfl)) (fun _ _ _ h => h) ?_ ?_ ?_
 ·cases b1
  ·(refine Or.inl ⟨by rfl, ?_⟩; intro w'; go_simp; try rfl)
  ·exact Or.inr ⟨by rfl, rfl⟩
 rotate_left
 ·(simp only [Act.put,zA,zB,zC,i64_w,i32_w]; rfl)
 refine pure_ (i := 18) (N := some 24) (v := .bool (b1 || (a2 != c2))) (a' := ?_) #[tt,tt,tt,tt,tt,tt,tt,tt,tt,tt,tt,tt,tt,tt,tt,tt,tt,tt,tt,ff,ff,ff,ff,ff,ff,ff,ff,ff,ff,ff,ff,ff,ff,ff,ff,ff,ff,ff,ff,ff,ff,ff,ff,ff,ff,ff,ff,ff,ff,ff,ff,ff,ff,ff,ff,ff,ff,ff,ff,ff,ff,ff,ff,ff,ff,ff,ff,ff,ff,ff,ff,ff,ff,ff,ff,ff,ff,ff,ff,ff,ff,ff,ff,ff,ff,ff,ff,ff,ff,ff,ff,ff,ff,ff,ff,ff,ff,ff,ff,ff,ff,ff] rfl rfl (any_of HT_.out (by kernel_rfl)) (fun _ _ _ h => h) (Or.inl ⟨by rfl, ?_⟩) ?_ ?_
 ·(intro w'; cases b1 <;> go_simp; try rfl)
 rotate_left
 ·(simp only [Act.put,zA,zB,zC,i64_w,i32_w]; rfl)
 (try generalize (if b1 = true then undef else .pointer (some ⟨g2, 2, none⟩)) = x0_2)
 (try generalize (if b1 = true then undef else .int .i64 a2) = x1_2)
 (try generalize (if b1 = true then undef else .pointer (some ⟨g3, 2, none⟩)) = x2_2)
 (try generalize (if b1 = true then undef else .int .i64 c2) = x3_2)
 (try generalize (if b1 = true then undef else .bool (a2 != c2)) = x4_2)
 generalize hb2 : (b1 || (a2 != c2)) = b2
 have Hb2 := Aside0.mk hb2
 clear hb2
 refine pure_ (i := 19) (N := some 25) (v := .bool b2) (a' := ?_) #[tt,tt,tt,tt,tt,tt,tt,tt,tt,tt,tt,tt,tt,tt,tt,tt,tt,tt,tt,tt,ff,ff,ff,ff,ff,ff,ff,ff,ff,ff,ff,ff,ff,ff,ff,ff,ff,ff,ff,ff,ff,ff,ff,ff,ff,ff,ff,ff,ff,ff,ff,ff,ff,ff,ff,ff,ff,ff,ff,ff,ff,ff,ff,ff,ff,ff,ff,ff,ff,ff,ff,ff,ff,ff,ff,ff,ff,ff,ff,ff,ff,ff,ff,ff,ff,ff,ff,ff,ff,ff,ff,ff,ff,ff,ff,ff,ff,ff,ff,ff,ff,ff] rfl rfl (any_of HT_.out (by kernel_rfl)) (fun _ _ _ h => h) (Or.inl ⟨by rfl, ?_⟩) ?_ ?_
 ·(intro w'; go_simp; try rfl)
 rotate_left
 ·(simp only [Act.put,zA,zB,zC,i64_w,i32_w]; rfl)
 refine pure_ (i := 20) (N := some 26) (v := if b2 = true then undef else .pointer (some ⟨g2, 3, none⟩)) (a' := ?_) #[tt,tt,tt,tt,tt,tt,tt,tt,tt,tt,tt,tt,tt,tt,tt,tt,tt,tt,tt,tt,tt,ff,ff,ff,ff,ff,ff,ff,ff,ff,ff,ff,ff,ff,ff,ff,ff,ff,ff,ff,ff,ff,ff,ff,ff,ff,ff,ff,ff,ff,ff,ff,ff,ff,ff,ff,ff,ff,ff,ff,ff,ff,ff,ff,ff,ff,ff,ff,ff,ff,ff,ff,ff,ff,ff,ff,ff,ff,ff,ff,ff,ff,ff,ff,ff,ff,ff,ff,ff,ff,ff,ff,ff,ff,ff,ff,ff,ff,ff,ff,ff,ff] rfl rfl (any_of HT_.out (by kernel_rfl)) (fun _ _ _ h => h) ?_ ?_ ?_
 ·cases b2
  ·(refine Or.inl ⟨by rfl, ?_⟩; intro w'; go_simp; try rfl)
  ·exact Or.inr ⟨by rfl, rfl⟩
 rotate_left
 ·(simp only [Act.put,zA,zB,zC,i64_w,i32_w]; rfl)
 refine take_ (i := 21) (N := some 27) (v := if b2 = true then undef else .int .u64 a3) (a' := ?_) #[tt,tt,tt,tt,tt,tt,tt,tt,tt,tt,tt,tt,tt,tt,tt,tt,tt,tt,tt,tt,tt,tt,ff,ff,ff,ff,ff,ff,ff,ff,ff,ff,ff,ff,ff,ff,ff,ff,ff,ff,ff,ff,ff,ff,ff,ff,ff,ff,ff,ff,ff,ff,ff,ff,ff,ff,ff,ff,ff,ff,ff,ff,ff,ff,ff,ff,ff,ff,ff,ff,ff,ff,ff,ff,ff,ff,ff,ff,ff,ff,ff,ff,ff,ff,ff,ff,ff,ff,ff,ff,ff,ff,ff,ff,ff,ff,ff,ff,ff,ff,ff,ff] rfl rfl (take_ofW HT_.out HW_.out (by kernel_rfl)) (fun _ _ _ h => h) ?_ hHeld ?_ ?_
 ·cases b2
  ·(refine Or.inl ⟨by rfl, ?_⟩; intro w' s0; have xq := (blk_cell (blk_below K2.out s0) 3).trans rfl; go_simp; try rfl)
  ·exact Or.inr ⟨by rfl, rfl⟩
 rotate_left
 ·(simp only [Act.put,zA,zB,zC,i64_w,i32_w]; rfl)
 refine pure_ (i := 22) (N := some 28) (v := if b2 = true then undef else .pointer (some ⟨g3, 3, none⟩)) (a' := ?_) #[tt,tt,tt,tt,tt,tt,tt,tt,tt,tt,tt,tt,tt,tt,tt,tt,tt,tt,tt,tt,tt,tt,tt,ff,ff,ff,ff,ff,ff,ff,ff,ff,ff,ff,ff,ff,ff,ff,ff,ff,ff,ff,ff,ff,ff,ff,ff,ff,ff,ff,ff,ff,ff,ff,ff,ff,ff,ff,ff,ff,ff,ff,ff,ff,ff,ff,ff,ff,ff,ff,ff,ff,ff,ff,ff,ff,ff,ff,ff,ff,ff,ff,ff,ff,ff,ff,ff,ff,ff,ff,ff,ff,ff,ff,ff,ff,ff,ff,ff,ff,ff,ff] rfl rfl (any_of HT_.out (by kernel_rfl)) (fun _ _ _ h => h) ?_ ?_ ?_
 ·cases b2
  ·(refine Or.inl ⟨by rfl, ?_⟩; intro w'; go_simp; try rfl)
  ·exact Or.inr ⟨by rfl, rfl⟩
 rotate_left
 ·(simp only [Act.put,zA,zB,zC,i64_w,i32_w]; rfl)
 refine take_ (i := 23) (N := some 29) (v := if b2 = true then undef else .int .u64 c3) (a' := ?_) #[tt,tt,tt,tt,tt,tt,tt,tt,tt,tt,tt,tt,tt,tt,tt,tt,tt,tt,tt,tt,tt,tt,tt,tt,ff,ff,ff,ff,ff,ff,ff,ff,ff,ff,ff,ff,ff,ff,ff,ff,ff,ff,ff,ff,ff,ff,ff,ff,ff,ff,ff,ff,ff,ff,ff,ff,ff,ff,ff,ff,ff,ff,ff,ff,ff,ff,ff,ff,ff,ff,ff,ff,ff,ff,ff,ff,ff,ff,ff,ff,ff,ff,ff,ff,ff,ff,ff,ff,ff,ff,ff,ff,ff,ff,ff,ff,ff,ff,ff,ff,ff,ff] rfl rfl (take_ofW HT_.out HW_.out (by kernel_rfl)) (fun _ _ _ h => h) ?_ hHeld ?_ ?_
 ·cases b2
  ·(refine Or.inl ⟨by rfl, ?_⟩; intro w' s0; have xq := (blk_cell (blk_below K3.out s0) 3).trans rfl; go_simp; try rfl)
  ·exact Or.inr ⟨by rfl, rfl⟩
 rotate_left
 ·(simp only [Act.put,zA,zB,zC,i64_w,i32_w]; rfl)
 refine pure_ (i := 24) (N := some 30) (v := if b2 = true then undef else .bool (a3 != c3)) (a' := ?_) #[tt,tt,tt,tt,tt,tt,tt,tt,tt,tt,tt,tt,tt,tt,tt,tt,tt,tt,tt,tt,tt,tt,tt,tt,tt,ff,ff,ff,ff,ff,ff,ff,ff,ff,ff,ff,ff,ff,ff,ff,ff,ff,ff,ff,ff,ff,ff,ff,ff,ff,ff,ff,ff,ff,ff,ff,ff,ff,ff,ff,ff,ff,ff,ff,ff,ff,ff,ff,ff,ff,ff,ff,ff,ff,ff,ff,ff,ff,ff,ff,ff,ff,ff,ff,ff,ff,ff,ff,ff,ff,ff,ff,ff,ff,ff,ff,ff,ff,ff,ff,ff,ff] rfl rfl (any_of HT_.out (by kernel_rfl)) (fun _ _ _ h => h) ?_ ?_ ?_
 ·cases b2
  ·(refine Or.inl ⟨by rfl, ?_⟩; intro w'; go_simp; try rfl)
  ·exact Or.inr ⟨by rfl, rfl⟩
 rotate_left
 ·(simp only [Act.put,zA,zB,zC,i64_w,i32_w]; rfl)
 refine pure_ (i := 25) (N := some 31) (v := .bool (b2 || (a3 != c3))) (a' := ?_) #[tt,tt,tt,tt,tt,tt,tt,tt,tt,tt,tt,tt,tt,tt,tt,tt,tt,tt,tt,tt,tt,tt,tt,tt,tt,tt,ff,ff,ff,ff,ff,ff,ff,ff,ff,ff,ff,ff,ff,ff,ff,ff,ff,ff,ff,ff,ff,ff,ff,ff,ff,ff,ff,ff,ff,ff,ff,ff,ff,ff,ff,ff,ff,ff,ff,ff,ff,ff,ff,ff,ff,ff,ff,ff,ff,ff,ff,ff,ff,ff,ff,ff,ff,ff,ff,ff,ff,ff,ff,ff,ff,ff,ff,ff,ff,ff,ff,ff,ff,ff,ff,ff] rfl rfl (any_of HT_.out (by kernel_rfl)) (fun _ _ _ h => h) (Or.inl ⟨by rfl, ?_⟩) ?_ ?_
 ·(intro w'; cases b2 <;> go_simp; try rfl)
 rotate_left
 ·(simp only [Act.put,zA,zB,zC,i64_w,i32_w]; rfl)
 (try generalize (if b2 = true then undef else .pointer (some ⟨g2, 3, none⟩)) = x0_3)
 (try generalize (if b2 = true then undef else .int .u64 a3) = x1_3)
 (try generalize (if b2 = true then undef else .pointer (some ⟨g3, 3, none⟩)) = x2_3)
 (try generalize (if b2 = true then undef else .int .u64 c3) = x3_3)
 (try generalize (if b2 = true then undef else .bool (a3 != c3)) = x4_3)
 generalize hb3 : (b2 || (a3 != c3)) = b3
 have Hb3 := Aside0.mk hb3
 clear hb3
 refine pure_ (i := 26) (N := some 32) (v := .bool b3) (a' := ?_) #[tt,tt,tt,tt,tt,tt,tt,tt,tt,tt,tt,tt,tt,tt,tt,tt,tt,tt,tt,tt,tt,tt,tt,tt,tt,tt,tt,ff,ff,ff,ff,ff,ff,ff,ff,ff,ff,ff,ff,ff,ff,ff,ff,ff,ff,ff,ff,ff,ff,ff,ff,ff,ff,ff,ff,ff,ff,ff,ff,ff,ff,ff,ff,ff,ff,ff,ff,ff,ff,ff,ff,ff,ff,ff,ff,ff,ff,ff,ff,ff,ff,ff,ff,ff,ff,ff,ff,ff,ff,ff,ff,ff,ff,ff,ff,ff,ff,ff,ff,ff,ff,ff] rfl rfl (any_of HT_.out (by kernel_rfl)) (fun _ _ _ h => h) (Or.inl ⟨by rfl, ?_⟩) ?_ ?_
 ·(intro w'; go_simp; try rfl)
 rotate_left
 ·(simp only [Act.put,zA,zB,zC,i64_w,i32_w]; rfl)
 refine pure_ (i := 27) (N := some 33) (v := if b3 = true then undef else .pointer (some ⟨g2, 4, none⟩)) (a' := ?_) #[tt,tt,tt,tt,tt,tt,tt,tt,tt,tt,tt,tt,tt,tt,tt,tt,tt,tt,tt,tt,tt,tt,tt,tt,tt,tt,tt,tt,ff,ff,ff,ff,ff,ff,ff,ff,ff,ff,ff,ff,ff,ff,ff,ff,ff,ff,ff,ff,ff,ff,ff,ff,ff,ff,ff,ff,ff,ff,ff,ff,ff,ff,ff,ff,ff,ff,ff,ff,ff,ff,ff,ff,ff,ff,ff,ff,ff,ff,ff,ff,ff,ff,ff,ff,ff,ff,ff,ff,ff,ff,ff,ff,ff,ff,ff,ff,ff,ff,ff,ff,ff,ff] rfl rfl (any_of HT_.out (by kernel_rfl)) (fun _ _ _ h => h) ?_ ?_ ?_
 ·cases b3
  ·(refine Or.inl ⟨by rfl, ?_⟩; intro w'; go_simp; try rfl)
  ·exact Or.inr ⟨by rfl, rfl⟩
 rotate_left
 ·(simp only [Act.put,zA,zB,zC,i64_w,i32_w]; rfl)
 refine take_ (i := 28) (N := some 34) (v := if b3 = true then undef else .int .i64 a4) (a' := ?_) #[tt,tt,tt,tt,tt,tt,tt,tt,tt,tt,tt,tt,tt,tt,tt,tt,tt,tt,tt,tt,tt,tt,tt,tt,tt,tt,tt,tt,tt,ff,ff,ff,ff,ff,ff,ff,ff,ff,ff,ff,ff,ff,ff,ff,ff,ff,ff,ff,ff,ff,ff,ff,ff,ff,ff,ff,ff,ff,ff,ff,ff,ff,ff,ff,ff,ff,ff,ff,ff,ff,ff,ff,ff,ff,ff,ff,ff,ff,ff,ff,ff,ff,ff,ff,ff,ff,ff,ff,ff,ff,ff,ff,ff,ff,ff,ff,ff,ff,ff,ff,ff,ff] rfl rfl (take_ofW HT_.out HW_.out (by kernel_rfl)) (fun _ _ _ h => h) ?_ hHeld ?_ ?_
 ·cases b3
  ·(refine Or.inl ⟨by rfl, ?_⟩; intro w' s0; have xq := (blk_cell (blk_below K2.out s0) 4).trans rfl; go_simp; try rfl)
  ·exact Or.inr ⟨by rfl, rfl⟩
 rotate_left
 ·(simp only [Act.put,zA,zB,zC,i64_w,i32_w]; rfl)
 refine pure_ (i := 29) (N := some 35) (v := if b3 = true then undef else .pointer (some ⟨g3, 4, none⟩)) (a' := ?_) #[tt,tt,tt,tt,tt,tt,tt,tt,tt,tt,tt,tt,tt,tt,tt,tt,tt,tt,tt,tt,tt,tt,tt,tt,tt,tt,tt,tt,tt,tt,ff,ff,ff,ff,ff,ff,ff,ff,ff,ff,ff,ff,ff,ff,ff,ff,ff,ff,ff,ff,ff,ff,ff,ff,ff,ff,ff,ff,ff,ff,ff,ff,ff,ff,ff,ff,ff,ff,ff,ff,ff,ff,ff,ff,ff,ff,ff,ff,ff,ff,ff,ff,ff,ff,ff,ff,ff,ff,ff,ff,ff,ff,ff,ff,ff,ff,ff,ff,ff,ff,ff,ff] rfl rfl (any_of HT_.out (by kernel_rfl)) (fun _ _ _ h => h) ?_ ?_ ?_
 ·cases b3
  ·(refine Or.inl ⟨by rfl, ?_⟩; intro w'; go_simp; try rfl)
  ·exact Or.inr ⟨by rfl, rfl⟩
 rotate_left
 ·(simp only [Act.put,zA,zB,zC,i64_w,i32_w]; rfl)
 refine take_ (i := 30) (N := some 36) (v := if b3 = true then undef else .int .i64 c4) (a' := ?_) #[tt,tt,tt,tt,tt,tt,tt,tt,tt,tt,tt,tt,tt,tt,tt,tt,tt,tt,tt,tt,tt,tt,tt,tt,tt,tt,tt,tt,tt,tt,tt,ff,ff,ff,ff,ff,ff,ff,ff,ff,ff,ff,ff,ff,ff,ff,ff,ff,ff,ff,ff,ff,ff,ff,ff,ff,ff,ff,ff,ff,ff,ff,ff,ff,ff,ff,ff,ff,ff,ff,ff,ff,ff,ff,ff,ff,ff,ff,ff,ff,ff,ff,ff,ff,ff,ff,ff,ff,ff,ff,ff,ff,ff,ff,ff,ff,ff,ff,ff,ff,ff,ff] rfl rfl (take_ofW HT_.out HW_.out (by kernel_rfl)) (fun _ _ _ h => h) ?_ hHeld ?_ ?_
 ·cases b3
  ·(refine Or.inl ⟨by rfl, ?_⟩; intro w' s0; have xq := (blk_cell (blk_below K3.out s0) 4).trans rfl; go_simp; try rfl)
  ·exact Or.inr ⟨by rfl, rfl⟩
 rotate_left
 ·(simp only [Act.put,zA,zB,zC,i64_w,i32_w]; rfl)
 refine pure_ (i := 31) (N := some 37) (v := if b3 = true then undef else .bool (a4 != c4)) (a' := ?_) #[tt,tt,tt,tt,tt,tt,tt,tt,tt,tt,tt,tt,tt,tt,tt,tt,tt,tt,tt,tt,tt,tt,tt,tt,tt,tt,tt,tt,tt,tt,tt,tt,ff,ff,ff,ff,ff,ff,ff,ff,ff,ff,ff,ff,ff,ff,ff,ff,ff,ff,ff,ff,ff,ff,ff,ff,ff,ff,ff,ff,ff,ff,ff,ff,ff,ff,ff,ff,ff,ff,ff,ff,ff,ff,ff,ff,ff,ff,ff,ff,ff,ff,ff,ff,ff,ff,ff,ff,ff,ff,ff,ff,ff,ff,ff,ff,ff,ff,ff,ff,ff,ff] rfl rfl (any_of HT_.out (by kernel_rfl)) (fun _ _ _ h => h) ?_ ?_ ?_
 ·cases b3
  ·(refine Or.inl ⟨by rfl, ?_⟩; intro w'; go_simp; try rfl)
  ·exact Or.inr ⟨by rfl, rfl⟩
 rotate_left
 ·(simp only [Act.put,zA,zB,zC,i64_w,i32_w]; rfl)
 refine pure_ (i := 32) (N := some 38) (v := .bool (b3 || (a4 != c4))) (a' := ?_) #[tt,tt,tt,tt,tt,tt,tt,tt,tt,tt,tt,tt,tt,tt,tt,tt,tt,tt,tt,tt,tt,tt,tt,tt,tt,tt,tt,tt,tt,tt,tt,tt,tt,ff,ff,ff,ff,ff,ff,ff,ff,ff,ff,ff,ff,ff,ff,ff,ff,ff,ff,ff,ff,ff,ff,ff,ff,ff,ff,ff,ff,ff,ff,ff,ff,ff,ff,ff,ff,ff,ff,ff,ff,ff,ff,ff,ff,ff,ff,ff,ff,ff,ff,ff,ff,ff,ff,ff,ff,ff,ff,ff,ff,ff,ff,ff,ff,ff,ff,ff,ff,ff] rfl rfl (any_of HT_.out (by kernel_rfl)) (fun _ _ _ h => h) (Or.inl ⟨by rfl, ?_⟩) ?_ ?_
 ·(intro w'; cases b3 <;> go_simp; try rfl)
 rotate_left
 ·(simp only [Act.put,zA,zB,zC,i64_w,i32_w]; rfl)
 (try generalize (if b3 = true then undef else .pointer (some ⟨g2, 4, none⟩)) = x0_4)
 (try generalize (if b3 = true then undef else .int .i64 a4) = x1_4)
 (try generalize (if b3 = true then undef else .pointer (some ⟨g3, 4, none⟩)) = x2_4)
 (try generalize (if b3 = true then undef else .int .i64 c4) = x3_4)
 (try generalize (if b3 = true then undef else .bool (a4 != c4)) = x4_4)
 generalize hb4 : (b3 || (a4 != c4)) = b4
 have Hb4 := Aside0.mk hb4
 clear hb4
 refine pure_ (i := 33) (N := some 39) (v := .bool b4) (a' := ?_) #[tt,tt,tt,tt,tt,tt,tt,tt,tt,tt,tt,tt,tt,tt,tt,tt,tt,tt,tt,tt,tt,tt,tt,tt,tt,tt,tt,tt,tt,tt,tt,tt,tt,tt,ff,ff,ff,ff,ff,ff,ff,ff,ff,ff,ff,ff,ff,ff,ff,ff,ff,ff,ff,ff,ff,ff,ff,ff,ff,ff,ff,ff,ff,ff,ff,ff,ff,ff,ff,ff,ff,ff,ff,ff,ff,ff,ff,ff,ff,ff,ff,ff,ff,ff,ff,ff,ff,ff,ff,ff,ff,ff,ff,ff,ff,ff,ff,ff,ff,ff,ff,ff] rfl rfl (any_of HT_.out (by kernel_rfl)) (fun _ _ _ h => h) (Or.inl ⟨by rfl, ?_⟩) ?_ ?_
 ·(intro w'; go_simp; try rfl)
 rotate_left
 ·(simp only [Act.put,zA,zB,zC,i64_w,i32_w]; rfl)
 refine pure_ (i := 34) (N := some 40) (v := if b4 = true then undef else .pointer (some ⟨g2, 5, none⟩)) (a' := ?_) #[tt,tt,tt,tt,tt,tt,tt,tt,tt,tt,tt,tt,tt,tt,tt,tt,tt,tt,tt,tt,tt,tt,tt,tt,tt,tt,tt,tt,tt,tt,tt,tt,tt,tt,tt,ff,ff,ff,ff,ff,ff,ff,ff,ff,ff,ff,ff,ff,ff,ff,ff,ff,ff,ff,ff,ff,ff,ff,ff,ff,ff,ff,ff,ff,ff,ff,ff,ff,ff,ff,ff,ff,ff,ff,ff,ff,ff,ff,ff,ff,ff,ff,ff,ff,ff,ff,ff,ff,ff,ff,ff,ff,ff,ff,ff,ff,ff,ff,ff,ff,ff,ff] rfl rfl (any_of HT_.out (by kernel_rfl)) (fun _ _ _ h => h) ?_ ?_ ?_
 ·cases b4
  ·(refine Or.inl ⟨by rfl, ?_⟩; intro w'; go_simp; try rfl)
  ·exact Or.inr ⟨by rfl, rfl⟩
 rotate_left
 ·(simp only [Act.put,zA,zB,zC,i64_w,i32_w]; rfl)
 refine take_ (i := 35) (N := some 41) (v := if b4 = true then undef else .slice Ax5 lx5.length nx5) (a' := ?_) #[tt,tt,tt,tt,tt,tt,tt,tt,tt,tt,tt,tt,tt,tt,tt,tt,tt,tt,tt,tt,tt,tt,tt,tt,tt,tt,tt,tt,tt,tt,tt,tt,tt,tt,tt,tt,ff,ff,ff,ff,ff,ff,ff,ff,ff,ff,ff,ff,ff,ff,ff,ff,ff,ff,ff,ff,ff,ff,ff,ff,ff,ff,ff,ff,ff,ff,ff,ff,ff,ff,ff,ff,ff,ff,ff,ff,ff,ff,ff,ff,ff,ff,ff,ff,ff,ff,ff,ff,ff,ff,ff,ff,ff,ff,ff,ff,ff,ff,ff,ff,ff,ff] rfl rfl (take_ofW HT_.out HW_.out (by kernel_rfl)) (fun _ _ _ h => h) ?_ hHeld ?_ ?_
 ·cases b4
  ·(refine Or.inl ⟨by rfl, ?_⟩; intro w' s0; have xq := (blk_cell (blk_below K2.out s0) 5).trans rfl; go_simp; try rfl)
  ·exact Or.inr ⟨by rfl, rfl⟩
 rotate_left
 ·(simp only [Act.put,zA,zB,zC,i64_w,i32_w]; rfl)
 refine pure_ (i := 36) (N := some 42) (v := if b4 = true then undef else .pointer (some ⟨g3, 5, none⟩)) (a' := ?_) #[tt,tt,tt,tt,tt,tt,tt,tt,tt,tt,tt,tt,tt,tt,tt,tt,tt,tt,tt,tt,tt,tt,tt,tt,tt,tt,tt,tt,tt,tt,tt,tt,tt,tt,tt,tt,tt,ff,ff,ff,ff,ff,ff,ff,ff,ff,ff,ff,ff,ff,ff,ff,ff,ff,ff,ff,ff,ff,ff,ff,ff,ff,ff,ff,ff,ff,ff,ff,ff,ff,ff,ff,ff,ff,ff,ff,ff,ff,ff,ff,ff,ff,ff,ff,ff,ff,ff,ff,ff,ff,ff,ff,ff,ff,ff,ff,ff,ff,ff,ff,ff,ff] rfl rfl (any_of HT_.out (by kernel_rfl)) (fun _ _ _ h => h) ?_ ?_ ?_
 ·cases b4
  ·(refine Or.inl ⟨by rfl, ?_⟩; intro w'; go_simp; try rfl)
  ·exact Or.inr ⟨by rfl, rfl⟩
 rotate_left
 ·(simp only [Act.put,zA,zB,zC,i64_w,i32_w]; rfl)
 refine take_ (i := 37) (N := some 43) (v := if b4 = true then undef else .slice Ay5 ly5.length ny5) (a' := ?_) #[tt,tt,tt,tt,tt,tt,tt,tt,tt,tt,tt,tt,tt,tt,tt,tt,tt,tt,tt,tt,tt,tt,tt,tt,tt,tt,tt,tt,tt,tt,tt,tt,tt,tt,tt,tt,tt,tt,ff,ff,ff,ff,ff,ff,ff,ff,ff,ff,ff,ff,ff,ff,ff,ff,ff,ff,ff,ff,ff,ff,ff,ff,ff,ff,ff,ff,ff,ff,ff,ff,ff,ff,ff,ff,ff,ff,ff,ff,ff,ff,ff,ff,ff,ff,ff,ff,ff,ff,ff,ff,ff,ff,ff,ff,ff,ff,ff,ff,ff,ff,ff,ff] rfl rfl (take_ofW HT_.out HW_.out (by kernel_rfl)) (fun _ _ _ h => h) ?_ hHeld ?_ ?_
 ·cases b4
  ·(refine Or.inl ⟨by rfl, ?_⟩; intro w' s0; have xq := (blk_cell (blk_below K3.out s0) 5).trans rfl; go_simp; try rfl)
  ·exact Or.inr ⟨by rfl, rfl⟩
 rotate_left
 ·(simp only [Act.put,zA,zB,zC,i64_w,i32_w]; rfl)
 refine one_ (i := 38) (N := some 44) #[tt,tt,tt,tt,tt,tt,tt,tt,tt,tt,tt,tt,tt,tt,tt,tt,tt,tt,tt,tt,tt,tt,tt,tt,tt,tt,tt,tt,tt,tt,tt,tt,tt,tt,tt,tt,tt,tt,tt,ff,ff,ff,ff,ff,ff,ff,ff,ff,ff,ff,ff,ff,ff,ff,ff,ff,ff,ff,ff,ff,ff,ff,ff,ff,ff,ff,ff,ff,ff,ff,ff,ff,ff,ff,ff,ff,ff,ff,ff,ff,ff,ff,ff,ff,ff,ff,ff,ff,ff,ff,ff,ff,ff,ff,ff,ff,ff,ff,ff,ff,ff,ff] rfl rfl (one_of HT_.out (by kernel_rfl)) (by decide) (fun K hK => ?_)
 refine bothN_ (b := b4) (v := .bool r5) (S := fun w' => Below wd.heap.size wd w') (fun h => by subst h; rfl) (fun h K' hK' => ?_) hHeld ?_
 ·subst h
  refine goes_ Try.func45 (by kernel_rfl) rfl #[.slice Ax5 lx5.length nx5, .slice Ay5 ly5.length ny5] (by rfl) rfl rfl (by (try simp only [List.map_toArray, List.map_cons, List.map_nil]); first | done | rfl) ?_
  refine (conventicleref07_Same.calls _ Ax5 nx5 lx5 Ay5 ny5 ly5 r5 _ (Kd.C_below Hx5.out hHeld) Mx5.out (Kd.C_below Hy5.out hHeld) My5.out F5.out).mono ?_
  rintro e w' ⟨rfl, hb⟩
  exact ⟨_, rfl, hK' _ (below_step hHeld (Drawn0.below hb))⟩
 intro wc5 hb_
 refine hK _ _ hb_ (fun hHeld => ?_)
 clear hK K
 refine norm_ (a' := ?_) ?_ ?_
 rotate_left
 ·(show Act.put _ (some 44) _ = _; simp only [Act.put,zA,zB,zC,i64_w,i32_w]; rfl)
 refine pure_ (i := 39) (N := some 45) (v := if b4 = true then undef else .bool (!r5)) (a' := ?_) #[tt,tt,tt,tt,tt,tt,tt,tt,tt,tt,tt,tt,tt,tt,tt,tt,tt,tt,tt,tt,tt,tt,tt,tt,tt,tt,tt,tt,tt,tt,tt,tt,tt,tt,tt,tt,tt,tt,tt,tt,ff,ff,ff,ff,ff,ff,ff,ff,ff,ff,ff,ff,ff,ff,ff,ff,ff,ff,ff,ff,ff,ff,ff,ff,ff,ff,ff,ff,ff,ff,ff,ff,ff,ff,ff,ff,ff,ff,ff,ff,ff,ff,ff,ff,ff,ff,ff,ff,ff,ff,ff,ff,ff,ff,ff,ff,ff,ff,ff,ff,ff,ff] rfl rfl (any_of HT_.out (by kernel_rfl)) (fun _ _ _ h => h) ?_ ?_ ?_
 ·cases b4
  ·(refine Or.inl ⟨by rfl, ?_⟩; intro w'; go_simp; try rfl)
  ·exact Or.inr ⟨by rfl, rfl⟩
 rotate_left
 ·(simp only [Act.put,zA,zB,zC,i64_w,i32_w]; rfl)
 refine pure_ (i := 40) (N := some 46) (v := .bool (b4 || (!r5))) (a' := ?_) #[tt,tt,tt,tt,tt,tt,tt,tt,tt,tt,tt,tt,tt,tt,tt,tt,tt,tt,tt,tt,tt,tt,tt,tt,tt,tt,tt,tt,tt,tt,tt,tt,tt,tt,tt,tt,tt,tt,tt,tt,tt,ff,ff,ff,ff,ff,ff,ff,ff,ff,ff,ff,ff,ff,ff,ff,ff,ff,ff,ff,ff,ff,ff,ff,ff,ff,ff,ff,ff,ff,ff,ff,ff,ff,ff,ff,ff,ff,ff,ff,ff,ff,ff,ff,ff,ff,ff,ff,ff,ff,ff,ff,ff,ff,ff,ff,ff,ff,ff,ff,ff,ff] rfl rfl (any_of HT_.out (by kernel_rfl)) (fun _ _ _ h => h) (Or.inl ⟨by rfl, ?_⟩) ?_ ?_
 ·(intro w'; cases b4 <;> go_simp; try rfl)
 rotate_left
 ·(simp only [Act.put,zA,zB,zC,i64_w,i32_w]; rfl)
 (try generalize (if b4 = true then undef else .pointer (some ⟨g2, 5, none⟩)) = x0_5)
 (try generalize (if b4 = true then undef else .slice Ax5 lx5.length nx5) = x1_5)
 (try generalize (if b4 = true then undef else .pointer (some ⟨g3, 5, none⟩)) = x2_5)
 (try generalize (if b4 = true then undef else .slice Ay5 ly5.length ny5) = x3_5)
 (try generalize (if b4 = true then undef else .bool r5) = x4_5)
 (try generalize (if b4 = true then undef else .bool (!r5)) = x5_5)
 generalize hb5 : (b4 || (!r5)) = b5
 have Hb5 := Aside0.mk hb5
 clear hb5
 refine pure_ (i := 41) (N := some 47) (v := .bool b5) (a' := ?_) #[tt,tt,tt,tt,tt,tt,tt,tt,tt,tt,tt,tt,tt,tt,tt,tt,tt,tt,tt,tt,tt,tt,tt,tt,tt,tt,tt,tt,tt,tt,tt,tt,tt,tt,tt,tt,tt,tt,tt,tt,tt,tt,ff,ff,ff,ff,ff,ff,ff,ff,ff,ff,ff,ff,ff,ff,ff,ff,ff,ff,ff,ff,ff,ff,ff,ff,ff,ff,ff,ff,ff,ff,ff,ff,ff,ff,ff,ff,ff,ff,ff,ff,ff,ff,ff,ff,ff,ff,ff,ff,ff,ff,ff,ff,ff,ff,ff,ff,ff,ff,ff,ff] rfl rfl (any_of HT_.out (by kernel_rfl)) (fun _ _ _ h => h) (Or.inl ⟨by rfl, ?_⟩) ?_ ?_
 ·(intro w'; go_simp; try rfl)
 rotate_left
 ·(simp only [Act.put,zA,zB,zC,i64_w,i32_w]; rfl)
 refine pure_ (i := 42) (N := some 48) (v := if b5 = true then undef else .pointer (some ⟨g2, 6, none⟩)) (a' := ?_) #[tt,tt,tt,tt,tt,tt,tt,tt,tt,tt,tt,tt,tt,tt,tt,tt,tt,tt,tt,tt,tt,tt,tt,tt,tt,tt,tt,tt,tt,tt,tt,tt,tt,tt,tt,tt,tt,tt,tt,tt,tt,tt,tt,ff,ff,ff,ff,ff,ff,ff,ff,ff,ff,ff,ff,ff,ff,ff,ff,ff,ff,ff,ff,ff,ff,ff,ff,ff,ff,ff,ff,ff,ff,ff,ff,ff,ff,ff,ff,ff,ff,ff,ff,ff,ff,ff,ff,ff,ff,ff,ff,ff,ff,ff,ff,ff,ff,ff,ff,ff,ff,ff] rfl rfl (any_of HT_.out (by kernel_rfl)) (fun _ _ _ h => h) ?_ ?_ ?_
 ·cases b5
  ·(refine Or.inl ⟨by rfl, ?_⟩; intro w'; go_simp; try rfl)
  ·exact Or.inr ⟨by rfl, rfl⟩
 rotate_left
 ·(simp only [Act.put,zA,zB,zC,i64_w,i32_w]; rfl)
 refine take_ (i := 43) (N := some 49) (v := if b5 = true then undef else .agg #[.int .u64 a6, .int .u64 a7]) (a' := ?_) #[tt,tt,tt,tt,tt,tt,tt,tt,tt,tt,tt,tt,tt,tt,tt,tt,tt,tt,tt,tt,tt,tt,tt,tt,tt,tt,tt,tt,tt,tt,tt,tt,tt,tt,tt,tt,tt,tt,tt,tt,tt,tt,tt,tt,ff,ff,ff,ff,ff,ff,ff,ff,ff,ff,ff,ff,ff,ff,ff,ff,ff,ff,ff,ff,ff,ff,ff,ff,ff,ff,ff,ff,ff,ff,ff,ff,ff,ff,ff,ff,ff,ff,ff,ff,ff,ff,ff,ff,ff,ff,ff,ff,ff,ff,ff,ff,ff,ff,ff,ff,ff,ff] rfl rfl (take_ofW HT_.out HW_.out (by kernel_rfl)) (fun _ _ _ h => h) ?_ hHeld ?_ ?_
 ·cases b5
  ·(refine Or.inl ⟨by rfl, ?_⟩; intro w' s0; have xq := (blk_cell (blk_below K2.out s0) 6).trans rfl; have xr := (blk_cell (blk_below K2.out s0) 7).trans rfl; go_simp; try rfl)
  ·exact Or.inr ⟨by rfl, rfl⟩
 rotate_left
 ·(simp only [Act.put,zA,zB,zC,i64_w,i32_w]; rfl)
 refine pure_ (i := 44) (N := some 50) (v := if b5 = true then undef else .pointer (some ⟨g3, 6, none⟩)) (a' := ?_) #[tt,tt,tt,tt,tt,tt,tt,tt,tt,tt,tt,tt,tt,tt,tt,tt,tt,tt,tt,tt,tt,tt,tt,tt,tt,tt,tt,tt,tt,tt,tt,tt,tt,tt,tt,tt,tt,tt,tt,tt,tt,tt,tt,tt,tt,ff,ff,ff,ff,ff,ff,ff,ff,ff,ff,ff,ff,ff,ff,ff,ff,ff,ff,ff,ff,ff,ff,ff,ff,ff,ff,ff,ff,ff,ff,ff,ff,ff,ff,ff,ff,ff,ff,ff,ff,ff,ff,ff,ff,ff,ff,ff,ff,ff,ff,ff,ff,ff,ff,ff,ff,ff] rfl rfl (any_of HT_.out (by kernel_rfl)) (fun _ _ _ h => h) ?_ ?_ ?_
 ·cases b5
  ·(refine Or.inl ⟨by rfl, ?_⟩; intro w'; go_simp; try rfl)
  ·exact Or.inr ⟨by rfl, rfl⟩
 rotate_left
 ·(simp only [Act.put,zA,zB,zC,i64_w,i32_w]; rfl)
 refine take_ (i := 45) (N := some 51) (v := if b5 = true then undef else .agg #[.int .u64 c6, .int .u64 c7]) (a' := ?_) #[tt,tt,tt,tt,tt,tt,tt,tt,tt,tt,tt,tt,tt,tt,tt,tt,tt,tt,tt,tt,tt,tt,tt,tt,tt,tt,tt,tt,tt,tt,tt,tt,tt,tt,tt,tt,tt,tt,tt,tt,tt,tt,tt,tt,tt,tt,ff,ff,ff,ff,ff,ff,ff,ff,ff,ff,ff,ff,ff,ff,ff,ff,ff,ff,ff,ff,ff,ff,ff,ff,ff,ff,ff,ff,ff,ff,ff,ff,ff,ff,ff,ff,ff,ff,ff,ff,ff,ff,ff,ff,ff,ff,ff,ff,ff,ff,ff,ff,ff,ff,ff,ff] rfl rfl (take_ofW HT_.out HW_.out (by kernel_rfl)) (fun _ _ _ h => h) ?_ hHeld ?_ ?_
 ·cases b5
  ·(refine Or.inl ⟨by rfl, ?_⟩; intro w' s0; have xq := (blk_cell (blk_below K3.out s0) 6).trans rfl; have xr := (blk_cell (blk_below K3.out s0) 7).trans rfl; go_simp; try rfl)
  ·exact Or.inr ⟨by rfl, rfl⟩
 rotate_left
 ·(simp only [Act.put,zA,zB,zC,i64_w,i32_w]; rfl)
 refine pure_ (i := 46) (N := some 52) (v := if b5 = true then undef else .bool (!(a6 == c6 && (a7 == c7)))) (a' := ?_) #[tt,tt,tt,tt,tt,tt,tt,tt,tt,tt,tt,tt,tt,tt,tt,tt,tt,tt,tt,tt,tt,tt,tt,tt,tt,tt,tt,tt,tt,tt,tt,tt,tt,tt,tt,tt,tt,tt,tt,tt,tt,tt,tt,tt,tt,tt,tt,ff,ff,ff,ff,ff,ff,ff,ff,ff,ff,ff,ff,ff,ff,ff,ff,ff,ff,ff,ff,ff,ff,ff,ff,ff,ff,ff,ff,ff,ff,ff,ff,ff,ff,ff,ff,ff,ff,ff,ff,ff,ff,ff,ff,ff,ff,ff,ff,ff,ff,ff,ff,ff,ff,ff] rfl rfl (any_of HT_.out (by kernel_rfl)) (fun _ _ _ h => h) ?_ ?_ ?_
 ·cases b5
  ·(refine Or.inl ⟨by rfl, ?_⟩; intro w'; go_simp; try rfl)
  ·exact Or.inr ⟨by rfl, rfl⟩
 rotate_left
 ·(simp only [Act.put,zA,zB,zC,i64_w,i32_w]; rfl)
 refine pure_ (i := 47) (N := some 53) (v := .bool (b5 || (!(a6 == c6 && (a7 == c7))))) (a' := ?_) #[tt,tt,tt,tt,tt,tt,tt,tt,tt,tt,tt,tt,tt,tt,tt,tt,tt,tt,tt,tt,tt,tt,tt,tt,tt,tt,tt,tt,tt,tt,tt,tt,tt,tt,tt,tt,tt,tt,tt,tt,tt,tt,tt,tt,tt,tt,tt,tt,ff,ff,ff,ff,ff,ff,ff,ff,ff,ff,ff,ff,ff,ff,ff,ff,ff,ff,ff,ff,ff,ff,ff,ff,ff,ff,ff,ff,ff,ff,ff,ff,ff,ff,ff,ff,ff,ff,ff,ff,ff,ff,ff,ff,ff,ff,ff,ff,ff,ff,ff,ff,ff,ff] rfl rfl (any_of HT_.out (by kernel_rfl)) (fun _ _ _ h => h) (Or.inl ⟨by rfl, ?_⟩) ?_ ?_
 ·(intro w'; cases b5 <;> go_simp; try rfl)
 rotate_left
 ·(simp only [Act.put,zA,zB,zC,i64_w,i32_w]; rfl)
 (try generalize (if b5 = true then undef else .pointer (some ⟨g2, 6, none⟩)) = x0_6)
 (try generalize (if b5 = true then undef else .agg #[.int .u64 a6, .int .u64 a7]) = x1_6)
 (try generalize (if b5 = true then undef else .pointer (some ⟨g3, 6, none⟩)) = x2_6)
 (try generalize (if b5 = true then undef else .agg #[.int .u64 c6, .int .u64 c7]) = x3_6)
 (try generalize (if b5 = true then undef else .bool (!(a6 == c6 && (a7 == c7)))) = x4_6)
 generalize hb6 : (b5 || (!(a6 == c6 && (a7 == c7)))) = b6
 have Hb6 := Aside0.mk hb6
 clear hb6
 refine pure_ (i := 48) (N := some 54) (v := .bool b6) (a' := ?_) #[tt,tt,tt,tt,tt,tt,tt,tt,tt,tt,tt,tt,tt,tt,tt,tt,tt,tt,tt,tt,tt,tt,tt,tt,tt,tt,tt,tt,tt,tt,tt,tt,tt,tt,tt,tt,tt,tt,tt,tt,tt,tt,tt,tt,tt,tt,tt,tt,tt,ff,ff,ff,ff,ff,ff,ff,ff,ff,ff,ff,ff,ff,ff,ff,ff,ff,ff,ff,ff,ff,ff,ff,ff,ff,ff,ff,ff,ff,ff,ff,ff,ff,ff,ff,ff,ff,ff,ff,ff,ff,ff,ff,ff,ff,ff,ff,ff,ff,ff,ff,ff,ff] rfl rfl (any_of HT_.out (by kernel_rfl)) (fun _ _ _ h => h) (Or.inl ⟨by rfl, ?_⟩) ?_ ?_
 ·(intro w'; go_simp; try rfl)
 rotate_left
 ·(simp only [Act.put,zA,zB,zC,i64_w,i32_w]; rfl)
 refine pure_ (i := 49) (N := some 55) (v := if b6 = true then undef else .pointer (some ⟨g2, 8, none⟩)) (a' := ?_) #[tt,tt,tt,tt,tt,tt,tt,tt,tt,tt,tt,tt,tt,tt,tt,tt,tt,tt,tt,tt,tt,tt,tt,tt,tt,tt,tt,tt,tt,tt,tt,tt,tt,tt,tt,tt,tt,tt,tt,tt,tt,tt,tt,tt,tt,tt,tt,tt,tt,tt,ff,ff,ff,ff,ff,ff,ff,ff,ff,ff,ff,ff,ff,ff,ff,ff,ff,ff,ff,ff,ff,ff,ff,ff,ff,ff,ff,ff,ff,ff,ff,ff,ff,ff,ff,ff,ff,ff,ff,ff,ff,ff,ff,ff,ff,ff,ff,ff,ff,ff,ff,ff] rfl rfl (any_of HT_.out (by kernel_rfl)) (fun _ _ _ h => h) ?_ ?_ ?_
 ·cases b6
  ·(refine Or.inl ⟨by rfl, ?_⟩; intro w'; go_simp; try rfl)
  ·exact Or.inr ⟨by rfl, rfl⟩
 rotate_left
 ·(simp only [Act.put,zA,zB,zC,i64_w,i32_w]; rfl)
 refine take_ (i := 50) (N := some 56) (v := if b6 = true then undef else .int .u64 a8) (a' := ?_) #[tt,tt,tt,tt,tt,tt,tt,tt,tt,tt,tt,tt,tt,tt,tt,tt,tt,tt,tt,tt,tt,tt,tt,tt,tt,tt,tt,tt,tt,tt,tt,tt,tt,tt,tt,tt,tt,tt,tt,tt,tt,tt,tt,tt,tt,tt,tt,tt,tt,tt,tt,ff,ff,ff,ff,ff,ff,ff,ff,ff,ff,ff,ff,ff,ff,ff,ff,ff,ff,ff,ff,ff,ff,ff,ff,ff,ff,ff,ff,ff,ff,ff,ff,ff,ff,ff,ff,ff,ff,ff,ff,ff,ff,ff,ff,ff,ff,ff,ff,ff,ff,ff] rfl rfl (take_ofW HT_.out HW_.out (by kernel_rfl)) (fun _ _ _ h => h) ?_ hHeld ?_ ?_
 ·cases b6
  ·(refine Or.inl ⟨by rfl, ?_⟩; intro w' s0; have xq := (blk_cell (blk_below K2.out s0) 8).trans rfl; go_simp; try rfl)
  ·exact Or.inr ⟨by rfl, rfl⟩
 rotate_left
 ·(simp only [Act.put,zA,zB,zC,i64_w,i32_w]; rfl)
 refine pure_ (i := 51) (N := some 57) (v := if b6 = true then undef else .pointer (some ⟨g3, 8, none⟩)) (a' := ?_) #[tt,tt,tt,tt,tt,tt,tt,tt,tt,tt,tt,tt,tt,tt,tt,tt,tt,tt,tt,tt,tt,tt,tt,tt,tt,tt,tt,tt,tt,tt,tt,tt,tt,tt,tt,tt,tt,tt,tt,tt,tt,tt,tt,tt,tt,tt,tt,tt,tt,tt,tt,tt,ff,ff,ff,ff,ff,ff,ff,ff,ff,ff,ff,ff,ff,ff,ff,ff,ff,ff,ff,ff,ff,ff,ff,ff,ff,ff,ff,ff,ff,ff,ff,ff,ff,ff,ff,ff,ff,ff,ff,ff,ff,ff,ff,ff,ff,ff,ff,ff,ff,ff] rfl rfl (any_of HT_.out (by kernel_rfl)) (fun _ _ _ h => h) ?_ ?_ ?_
 ·cases b6
  ·(refine Or.inl ⟨by rfl, ?_⟩; intro w'; go_simp; try rfl)
  ·exact Or.inr ⟨by rfl, rfl⟩
 rotate_left
 ·(simp only [Act.put,zA,zB,zC,i64_w,i32_w]; rfl)
 refine take_ (i := 52) (N := some 58) (v := if b6 = true then undef else .int .u64 c8) (a' := ?_) #[tt,tt,tt,tt,tt,tt,tt,tt,tt,tt,tt,tt,tt,tt,tt,tt,tt,tt,tt,tt,tt,tt,tt,tt,tt,tt,tt,tt,tt,tt,tt,tt,tt,tt,tt,tt,tt,tt,tt,tt,tt,tt,tt,tt,tt,tt,tt,tt,tt,tt,tt,tt,tt,ff,ff,ff,ff,ff,ff,ff,ff,ff,ff,ff,ff,ff,ff,ff,ff,ff,ff,ff,ff,ff,ff,ff,ff,ff,ff,ff,ff,ff,ff,ff,ff,ff,ff,ff,ff,ff,ff,ff,ff,ff,ff,ff,ff,ff,ff,ff,ff,ff] rfl rfl (take_ofW HT_.out HW_.out (by kernel_rfl)) (fun _ _ _ h => h) ?_ hHeld ?_ ?_
 ·cases b6
  ·(refine Or.inl ⟨by rfl, ?_⟩; intro w' s0; have xq := (blk_cell (blk_below K3.out s0) 8).trans rfl; go_simp; try rfl)
  ·exact Or.inr ⟨by rfl, rfl⟩
 rotate_left
 ·(simp only [Act.put,zA,zB,zC,i64_w,i32_w]; rfl)
 refine pure_ (i := 53) (N := some 59) (v := if b6 = true then undef else .bool (a8 != c8)) (a' := ?_) #[tt,tt,tt,tt,tt,tt,tt,tt,tt,tt,tt,tt,tt,tt,tt,tt,tt,tt,tt,tt,tt,tt,tt,tt,tt,tt,tt,tt,tt,tt,tt,tt,tt,tt,tt,tt,tt,tt,tt,tt,tt,tt,tt,tt,tt,tt,tt,tt,tt,tt,tt,tt,tt,tt,ff,ff,ff,ff,ff,ff,ff,ff,ff,ff,ff,ff,ff,ff,ff,ff,ff,ff,ff,ff,ff,ff,ff,ff,ff,ff,ff,ff,ff,ff,ff,ff,ff,ff,ff,ff,ff,ff,ff,ff,ff,ff,ff,ff,ff,ff,ff,ff] rfl rfl (any_of HT_.out (by kernel_rfl)) (fun _ _ _ h => h) ?_ ?_ ?_
 ·cases b6
  ·(refine Or.inl ⟨by rfl, ?_⟩; intro w'; go_simp; try rfl)
  ·exact Or.inr ⟨by rfl, rfl⟩
 rotate_left
 ·(simp only [Act.put,zA,zB,zC,i64_w,i32_w]; rfl)
 refine pure_ (i := 54) (N := some 60) (v := .bool (b6 || (a8 != c8))) (a' := ?_) #[tt,tt,tt,tt,tt,tt,tt,tt,tt,tt,tt,tt,tt,tt,tt,tt,tt,tt,tt,tt,tt,tt,tt,tt,tt,tt,tt,tt,tt,tt,tt,tt,tt,tt,tt,tt,tt,tt,tt,tt,tt,tt,tt,tt,tt,tt,tt,tt,tt,tt,tt,tt,tt,tt,tt,ff,ff,ff,ff,ff,ff,ff,ff,ff,ff,ff,ff,ff,ff,ff,ff,ff,ff,ff,ff,ff,ff,ff,ff,ff,ff,ff,ff,ff,ff,ff,ff,ff,ff,ff,ff,ff,ff,ff,ff,ff,ff,ff,ff,ff,ff,ff] rfl rfl (any_of HT_.out (by kernel_rfl)) (fun _ _ _ h => h) (Or.inl ⟨by rfl, ?_⟩) ?_ ?_
 ·(intro w'; cases b6 <;> go_simp; try rfl)
 rotate_left
 ·(simp only [Act.put,zA,zB,zC,i64_w,i32_w]; rfl)
 (try generalize (if b6 = true then undef else .pointer (some ⟨g2, 8, none⟩)) = x0_7)
 (try generalize (if b6 = true then undef else .int .u64 a8) = x1_7)
 (try generalize (if b6 = true then undef else .pointer (some ⟨g3, 8, none⟩)) = x2_7)
 (try generalize (if b6 = true then undef else .int .u64 c8) = x3_7)
 (try generalize (if b6 = true then undef else .bool (a8 != c8)) = x4_7)
 generalize hb7 : (b6 || (a8 != c8)) = b7
 have Hb7 := Aside0.mk hb7
 clear hb7
 refine pure_ (i := 55) (N := some 61) (v := .bool b7) (a' := ?_) #[tt,tt,tt,tt,tt,tt,tt,tt,tt,tt,tt,tt,tt,tt,tt,tt,tt,tt,tt,tt,tt,tt,tt,tt,tt,tt,tt,tt,tt,tt,tt,tt,tt,tt,tt,tt,tt,tt,tt,tt,tt,tt,tt,tt,tt,tt,tt,tt,tt,tt,tt,tt,tt,tt,tt,tt,ff,ff,ff,ff,ff,ff,ff,ff,ff,ff,ff,ff,ff,ff,ff,ff,ff,ff,ff,ff,ff,ff,ff,ff,ff,ff,ff,ff,ff,ff,ff,ff,ff,ff,ff,ff,ff,ff,ff,ff,ff,ff,ff,ff,ff,ff] rfl rfl (any_of HT_.out (by kernel_rfl)) (fun _ _ _ h => h) (Or.inl ⟨by rfl, ?_⟩) ?_ ?_
 ·(intro w'; go_simp; try rfl)
 rotate_left
 ·(simp only [Act.put,zA,zB,zC,i64_w,i32_w]; rfl)
 refine pure_ (i := 56) (N := some 62) (v := if b7 = true then undef else .pointer (some ⟨g2, 9, none⟩)) (a' := ?_) #[tt,tt,tt,tt,tt,tt,tt,tt,tt,tt,tt,tt,tt,tt,tt,tt,tt,tt,tt,tt,tt,tt,tt,tt,tt,tt,tt,tt,tt,tt,tt,tt,tt,tt,tt,tt,tt,tt,tt,tt,tt,tt,tt,tt,tt,tt,tt,tt,tt,tt,tt,tt,tt,tt,tt,tt,tt,ff,ff,ff,ff,ff,ff,ff,ff,ff,ff,ff,ff,ff,ff,ff,ff,ff,ff,ff,ff,ff,ff,ff,ff,ff,ff,ff,ff,ff,ff,ff,ff,ff,ff,ff,ff,ff,ff,ff,ff,ff,ff,ff,ff,ff] rfl rfl (any_of HT_.out (by kernel_rfl)) (fun _ _ _ h => h) ?_ ?_ ?_
 ·cases b7
  ·(refine Or.inl ⟨by rfl, ?_⟩; intro w'; go_simp; try rfl)
  ·exact Or.inr ⟨by rfl, rfl⟩
 rotate_left
 ·(simp only [Act.put,zA,zB,zC,i64_w,i32_w]; rfl)
 refine take_ (i := 57) (N := some 63) (v := if b7 = true then undef else .int .u64 a9) (a' := ?_) #[tt,tt,tt,tt,tt,tt,tt,tt,tt,tt,tt,tt,tt,tt,tt,tt,tt,tt,tt,tt,tt,tt,tt,tt,tt,tt,tt,tt,tt,tt,tt,tt,tt,tt,tt,tt,tt,tt,tt,tt,tt,tt,tt,tt,tt,tt,tt,tt,tt,tt,tt,tt,tt,tt,tt,tt,tt,tt,ff,ff,ff,ff,ff,ff,ff,ff,ff,ff,ff,ff,ff,ff,ff,ff,ff,ff,ff,ff,ff,ff,ff,ff,ff,ff,ff,ff,ff,ff,ff,ff,ff,ff,ff,ff,ff,ff,ff,ff,ff,ff,ff,ff] rfl rfl (take_ofW HT_.out HW_.out (by kernel_rfl)) (fun _ _ _ h => h) ?_ hHeld ?_ ?_
 ·cases b7
  ·(refine Or.inl ⟨by rfl, ?_⟩; intro w' s0; have xq := (blk_cell (blk_below K2.out s0) 9).trans rfl; go_simp; try rfl)
  ·exact Or.inr ⟨by rfl, rfl⟩
 rotate_left
 ·(simp only [Act.put,zA,zB,zC,i64_w,i32_w]; rfl)
 refine pure_ (i := 58) (N := some 64) (v := if b7 = true then undef else .pointer (some ⟨g3, 9, none⟩)) (a' := ?_) #[tt,tt,tt,tt,tt,tt,tt,tt,tt,tt,tt,tt,tt,tt,tt,tt,tt,tt,tt,tt,tt,tt,tt,tt,tt,tt,tt,tt,tt,tt,tt,tt,tt,tt,tt,tt,tt,tt,tt,tt,tt,tt,tt,tt,tt,tt,tt,tt,tt,tt,tt,tt,tt,tt,tt,tt,tt,tt,tt,ff,ff,ff,ff,ff,ff,ff,ff,ff,ff,ff,ff,ff,ff,ff,ff,ff,ff,ff,ff,ff,ff,ff,ff,ff,ff,ff,ff,ff,ff,ff,ff,ff,ff,ff,ff,ff,ff,ff,ff,ff,ff,ff] rfl rfl (any_of HT_.out (by kernel_rfl)) (fun _ _ _ h => h) ?_ ?_ ?_
 ·cases b7
  ·(refine Or.inl ⟨by rfl, ?_⟩; intro w'; go_simp; try rfl)
  ·exact Or.inr ⟨by rfl, rfl⟩
 rotate_left
 ·(simp only [Act.put,zA,zB,zC,i64_w,i32_w]; rfl)
 refine take_ (i := 59) (N := some 65) (v := if b7 = true then undef else .int .u64 c9) (a' := ?_) #[tt,tt,tt,tt,tt,tt,tt,tt,tt,tt,tt,tt,tt,tt,tt,tt,tt,tt,tt,tt,tt,tt,tt,tt,tt,tt,tt,tt,tt,tt,tt,tt,tt,tt,tt,tt,tt,tt,tt,tt,tt,tt,tt,tt,tt,tt,tt,tt,tt,tt,tt,tt,tt,tt,tt,tt,tt,tt,tt,tt,ff,ff,ff,ff,ff,ff,ff,ff,ff,ff,ff,ff,ff,ff,ff,ff,ff,ff,ff,ff,ff,ff,ff,ff,ff,ff,ff,ff,ff,ff,ff,ff,ff,ff,ff,ff,ff,ff,ff,ff,ff,ff] rfl rfl (take_ofW HT_.out HW_.out (by kernel_rfl)) (fun _ _ _ h => h) ?_ hHeld ?_ ?_
 ·cases b7
  ·(refine Or.inl ⟨by rfl, ?_⟩; intro w' s0; have xq := (blk_cell (blk_below K3.out s0) 9).trans rfl; go_simp; try rfl)
  ·exact Or.inr ⟨by rfl, rfl⟩
 rotate_left
 ·(simp only [Act.put,zA,zB,zC,i64_w,i32_w]; rfl)
 refine pure_ (i := 60) (N := some 66) (v := if b7 = true then undef else .bool (a9 != c9)) (a' := ?_) #[tt,tt,tt,tt,tt,tt,tt,tt,tt,tt,tt,tt,tt,tt,tt,tt,tt,tt,tt,tt,tt,tt,tt,tt,tt,tt,tt,tt,tt,tt,tt,tt,tt,tt,tt,tt,tt,tt,tt,tt,tt,tt,tt,tt,tt,tt,tt,tt,tt,tt,tt,tt,tt,tt,tt,tt,tt,tt,tt,tt,tt,ff,ff,ff,ff,ff,ff,ff,ff,ff,ff,ff,ff,ff,ff,ff,ff,ff,ff,ff,ff,ff,ff,ff,ff,ff,ff,ff,ff,ff,ff,ff,ff,ff,ff,ff,ff,ff,ff,ff,ff,ff] rfl rfl (any_of HT_.out (by kernel_rfl)) (fun _ _ _ h => h) ?_ ?_ ?_
 ·cases b7
  ·(refine Or.inl ⟨by rfl, ?_⟩; intro w'; go_simp; try rfl)
  ·exact Or.inr ⟨by rfl, rfl⟩
 rotate_left
 ·(simp only [Act.put,zA,zB,zC,i64_w,i32_w]; rfl)
 refine pure_ (i := 61) (N := some 67) (v := .bool (b7 || (a9 != c9))) (a' := ?_) #[tt,tt,tt,tt,tt,tt,tt,tt,tt,tt,tt,tt,tt,tt,tt,tt,tt,tt,tt,tt,tt,tt,tt,tt,tt,tt,tt,tt,tt,tt,tt,tt,tt,tt,tt,tt,tt,tt,tt,tt,tt,tt,tt,tt,tt,tt,tt,tt,tt,tt,tt,tt,tt,tt,tt,tt,tt,tt,tt,tt,tt,tt,ff,ff,ff,ff,ff,ff,ff,ff,ff,ff,ff,ff,ff,ff,ff,ff,ff,ff,ff,ff,ff,ff,ff,ff,ff,ff,ff,ff,ff,ff,ff,ff,ff,ff,ff,ff,ff,ff,ff,ff] rfl rfl (any_of HT_.out (by kernel_rfl)) (fun _ _ _ h => h) (Or.inl ⟨by rfl, ?_⟩) ?_ ?_
 ·(intro w'; cases b7 <;> go_simp; try rfl)
 rotate_left
 ·(simp only [Act.put,zA,zB,zC,i64_w,i32_w]; rfl)
 (try generalize (if b7 = true then undef else .pointer (some ⟨g2, 9, none⟩)) = x0_8)
 (try generalize (if b7 = true then undef else .int .u64 a9) = x1_8)
 (try generalize (if b7 = true then undef else .pointer (some ⟨g3, 9, none⟩)) = x2_8)
 (try generalize (if b7 = true then undef else .int .u64 c9) = x3_8)
 (try generalize (if b7 = true then undef else .bool (a9 != c9)) = x4_8)
 generalize hb8 : (b7 || (a9 != c9)) = b8
 have Hb8 := Aside0.mk hb8
 clear hb8
 refine pure_ (i := 62) (N := some 68) (v := .bool b8) (a' := ?_) #[tt,tt,tt,tt,tt,tt,tt,tt,tt,tt,tt,tt,tt,tt,tt,tt,tt,tt,tt,tt,tt,tt,tt,tt,tt,tt,tt,tt,tt,tt,tt,tt,tt,tt,tt,tt,tt,tt,tt,tt,tt,tt,tt,tt,tt,tt,tt,tt,tt,tt,tt,tt,tt,tt,tt,tt,tt,tt,tt,tt,tt,tt,tt,ff,ff,ff,ff,ff,ff,ff,ff,ff,ff,ff,ff,ff,ff,ff,ff,ff,ff,ff,ff,ff,ff,ff,ff,ff,ff,ff,ff,ff,ff,ff,ff,ff,ff,ff,ff,ff,ff,ff] rfl rfl (any_of HT_.out (by kernel_rfl)) (fun _ _ _ h => h) (Or.inl ⟨by rfl, ?_⟩) ?_ ?_
 ·(intro w'; go_simp; try rfl)
 rotate_left
 ·(simp only [Act.put,zA,zB,zC,i64_w,i32_w]; rfl)
 refine pure_ (i := 63) (N := some 69) (v := if b8 = true then undef else .pointer (some ⟨g2, 10, none⟩)) (a' := ?_) #[tt,tt,tt,tt,tt,tt,tt,tt,tt,tt,tt,tt,tt,tt,tt,tt,tt,tt,tt,tt,tt,tt,tt,tt,tt,tt,tt,tt,tt,tt,tt,tt,tt,tt,tt,tt,tt,tt,tt,tt,tt,tt,tt,tt,tt,tt,tt,tt,tt,tt,tt,tt,tt,tt,tt,tt,tt,tt,tt,tt,tt,tt,tt,tt,ff,ff,ff,ff,ff,ff,ff,ff,ff,ff,ff,ff,ff,ff,ff,ff,ff,ff,ff,ff,ff,ff,ff,ff,ff,ff,ff,ff,ff,ff,ff,ff,ff,ff,ff,ff,ff,ff] rfl rfl (any_of HT_.out (by kernel_rfl)) (fun _ _ _ h => h) ?_ ?_ ?_
 ·cases b8
  ·(refine Or.inl ⟨by rfl, ?_⟩; intro w'; go_simp; try rfl)
  ·exact Or.inr ⟨by rfl, rfl⟩
 rotate_left
 ·(simp only [Act.put,zA,zB,zC,i64_w,i32_w]; rfl)
 refine take_ (i := 64) (N := some 70) (v := if b8 = true then undef else .agg #[.int .u64 a10, .int .u64 a11]) (a' := ?_) #[tt,tt,tt,tt,tt,tt,tt,tt,tt,tt,tt,tt,tt,tt,tt,tt,tt,tt,tt,tt,tt,tt,tt,tt,tt,tt,tt,tt,tt,tt,tt,tt,tt,tt,tt,tt,tt,tt,tt,tt,tt,tt,tt,tt,tt,tt,tt,tt,tt,tt,tt,tt,tt,tt,tt,tt,tt,tt,tt,tt,tt,tt,tt,tt,tt,ff,ff,ff,ff,ff,ff,ff,ff,ff,ff,ff,ff,ff,ff,ff,ff,ff,ff,ff,ff,ff,ff,ff,ff,ff,ff,ff,ff,ff,ff,ff,ff,ff,ff,ff,ff,ff] rfl rfl (take_ofW HT_.out HW_.out (by kernel_rfl)) (fun _ _ _ h => h) ?_ hHeld ?_ ?_
 ·cases b8
  ·(refine Or.inl ⟨by rfl, ?_⟩; intro w' s0; have xq := (blk_cell (blk_below K2.out s0) 10).trans rfl; have xr := (blk_cell (blk_below K2.out s0) 11).trans rfl; go_simp; try rfl)
  ·exact Or.inr ⟨by rfl, rfl⟩
 rotate_left
 ·(simp only [Act.put,zA,zB,zC,i64_w,i32_w]; rfl)
 refine pure_ (i := 65) (N := some 71) (v := if b8 = true then undef else .pointer (some ⟨g3, 10, none⟩)) (a' := ?_) #[tt,tt,tt,tt,tt,tt,tt,tt,tt,tt,tt,tt,tt,tt,tt,tt,tt,tt,tt,tt,tt,tt,tt,tt,tt,tt,tt,tt,tt,tt,tt,tt,tt,tt,tt,tt,tt,tt,tt,tt,tt,tt,tt,tt,tt,tt,tt,tt,tt,tt,tt,tt,tt,tt,tt,tt,tt,tt,tt,tt,tt,tt,tt,tt,tt,tt,ff,ff,ff,ff,ff,ff,ff,ff,ff,ff,ff,ff,ff,ff,ff,ff,ff,ff,ff,ff,ff,ff,ff,ff,ff,ff,ff,ff,ff,ff,ff,ff,ff,ff,ff,ff] rfl rfl (any_of HT_.out (by kernel_rfl)) (fun _ _ _ h => h) ?_ ?_ ?_
 ·cases b8
  ·(refine Or.inl ⟨by rfl, ?_⟩; intro w'; go_simp; try rfl)
  ·exact Or.inr ⟨by rfl, rfl⟩
 rotate_left
 ·(simp only [Act.put,zA,zB,zC,i64_w,i32_w]; rfl)
 refine take_ (i := 66) (N := some 72) (v := if b8 = true then undef else .agg #[.int .u64 c10, .int .u64 c11]) (a' := ?_) #[tt,tt,tt,tt,tt,tt,tt,tt,tt,tt,tt,tt,tt,tt,tt,tt,tt,tt,tt,tt,tt,tt,tt,tt,tt,tt,tt,tt,tt,tt,tt,tt,tt,tt,tt,tt,tt,tt,tt,tt,tt,tt,tt,tt,tt,tt,tt,tt,tt,tt,tt,tt,tt,tt,tt,tt,tt,tt,tt,tt,tt,tt,tt,tt,tt,tt,tt,ff,ff,ff,ff,ff,ff,ff,ff,ff,ff,ff,ff,ff,ff,ff,ff,ff,ff,ff,ff,ff,ff,ff,ff,ff,ff,ff,ff,ff,ff,ff,ff,ff,ff,ff] rfl rfl (take_ofW HT_.out HW_.out (by kernel_rfl)) (fun _ _ _ h => h) ?_ hHeld ?_ ?_
 ·cases b8
  ·(refine Or.inl ⟨by rfl, ?_⟩; intro w' s0; have xq := (blk_cell (blk_below K3.out s0) 10).trans rfl; have xr := (blk_cell (blk_below K3.out s0) 11).trans rfl; go_simp; try rfl)
  ·exact Or.inr ⟨by rfl, rfl⟩
 rotate_left
 ·(simp only [Act.put,zA,zB,zC,i64_w,i32_w]; rfl)
 refine pure_ (i := 67) (N := some 73) (v := if b8 = true then undef else .bool (!(a10 == c10 && (a11 == c11)))) (a' := ?_) #[tt,tt,tt,tt,tt,tt,tt,tt,tt,tt,tt,tt,tt,tt,tt,tt,tt,tt,tt,tt,tt,tt,tt,tt,tt,tt,tt,tt,tt,tt,tt,tt,tt,tt,tt,tt,tt,tt,tt,tt,tt,tt,tt,tt,tt,tt,tt,tt,tt,tt,tt,tt,tt,tt,tt,tt,tt,tt,tt,tt,tt,tt,tt,tt,tt,tt,tt,tt,ff,ff,ff,ff,ff,ff,ff,ff,ff,ff,ff,ff,ff,ff,ff,ff,ff,ff,ff,ff,ff,ff,ff,ff,ff,ff,ff,ff,ff,ff,ff,ff,ff,ff] rfl rfl (any_of HT_.out (by kernel_rfl)) (fun _ _ _ h => h) ?_ ?_ ?_
 ·cases b8
  ·(refine Or.inl ⟨by rfl, ?_⟩; intro w'; go_simp; try rfl)
  ·exact Or.inr ⟨by rfl, rfl⟩
 rotate_left
 ·(simp only [Act.put,zA,zB,zC,i64_w,i32_w]; rfl)
 refine pure_ (i := 68) (N := some 74) (v := .bool (b8 || (!(a10 == c10 && (a11 == c11))))) (a' := ?_) #[tt,tt,tt,tt,tt,tt,tt,tt,tt,tt,tt,tt,tt,tt,tt,tt,tt,tt,tt,tt,tt,tt,tt,tt,tt,tt,tt,tt,tt,tt,tt,tt,tt,tt,tt,tt,tt,tt,tt,tt,tt,tt,tt,tt,tt,tt,tt,tt,tt,tt,tt,tt,tt,tt,tt,tt,tt,tt,tt,tt,tt,tt,tt,tt,tt,tt,tt,tt,tt,ff,ff,ff,ff,ff,ff,ff,ff,ff,ff,ff,ff,ff,ff,ff,ff,ff,ff,ff,ff,ff,ff,ff,ff,ff,ff,ff,ff,ff,ff,ff,ff,ff] rfl rfl (any_of HT_.out (by kernel_rfl)) (fun _ _ _ h => h) (Or.inl ⟨by rfl, ?_⟩) ?_ ?_
 ·(intro w'; cases b8 <;> go_simp; try rfl)
 rotate_left
 ·(simp only [Act.put,zA,zB,zC,i64_w,i32_w]; rfl)
 (try generalize (if b8 = true then undef else .pointer (some ⟨g2, 10, none⟩)) = x0_9)
 (try generalize (if b8 = true then undef else .agg #[.int .u64 a10, .int .u64 a11]) = x1_9)
 (try generalize (if b8 = true then undef else .pointer (some ⟨g3, 10, none⟩)) = x2_9)
 (try generalize (if b8 = true then undef else .agg #[.int .u64 c10, .int .u64 c11]) = x3_9)
 (try generalize (if b8 = true then undef else .bool (!(a10 == c10 && (a11 == c11)))) = x4_9)
 generalize hb9 : (b8 || (!(a10 == c10 && (a11 == c11)))) = b9
 have Hb9 := Aside0.mk hb9
 clear hb9
 refine pure_ (i := 69) (N := some 75) (v := .bool b9) (a' := ?_) #[tt,tt,tt,tt,tt,tt,tt,tt,tt,tt,tt,tt,tt,tt,tt,tt,tt,tt,tt,tt,tt,tt,tt,tt,tt,tt,tt,tt,tt,tt,tt,tt,tt,tt,tt,tt,tt,tt,tt,tt,tt,tt,tt,tt,tt,tt,tt,tt,tt,tt,tt,tt,tt,tt,tt,tt,tt,tt,tt,tt,tt,tt,tt,tt,tt,tt,tt,tt,tt,tt,ff,ff,ff,ff,ff,ff,ff,ff,ff,ff,ff,ff,ff,ff,ff,ff,ff,ff,ff,ff,ff,ff,ff,ff,ff,ff,ff,ff,ff,ff,ff,ff] rfl rfl (any_of HT_.out (by kernel_rfl)) (fun _ _ _ h => h) (Or.inl ⟨by rfl, ?_⟩) ?_ ?_
 ·(intro w'; go_simp; try rfl)
 rotate_left
 ·(simp only [Act.put,zA,zB,zC,i64_w,i32_w]; rfl)
 refine pure_ (i := 70) (N := some 76) (v := if b9 = true then undef else .pointer (some ⟨g2, 12, none⟩)) (a' := ?_) #[tt,tt,tt,tt,tt,tt,tt,tt,tt,tt,tt,tt,tt,tt,tt,tt,tt,tt,tt,tt,tt,tt,tt,tt,tt,tt,tt,tt,tt,tt,tt,tt,tt,tt,tt,tt,tt,tt,tt,tt,tt,tt,tt,tt,tt,tt,tt,tt,tt,tt,tt,tt,tt,tt,tt,tt,tt,tt,tt,tt,tt,tt,tt,tt,tt,tt,tt,tt,tt,tt,tt,ff,ff,ff,ff,ff,ff,ff,ff,ff,ff,ff,ff,ff,ff,ff,ff,ff,ff,ff,ff,ff,ff,ff,ff,ff,ff,ff,ff,ff,ff,ff] rfl rfl (any_of HT_.out (by kernel_rfl)) (fun _ _ _ h => h) ?_ ?_ ?_
 ·cases b9
  ·(refine Or.inl ⟨by rfl, ?_⟩; intro w'; go_simp; try rfl)
  ·exact Or.inr ⟨by rfl, rfl⟩
 rotate_left
 ·(simp only [Act.put,zA,zB,zC,i64_w,i32_w]; rfl)
 refine take_ (i := 71) (N := some 77) (v := if b9 = true then undef else .int .u64 a12) (a' := ?_) #[tt,tt,tt,tt,tt,tt,tt,tt,tt,tt,tt,tt,tt,tt,tt,tt,tt,tt,tt,tt,tt,tt,tt,tt,tt,tt,tt,tt,tt,tt,tt,tt,tt,tt,tt,tt,tt,tt,tt,tt,tt,tt,tt,tt,tt,tt,tt,tt,tt,tt,tt,tt,tt,tt,tt,tt,tt,tt,tt,tt,tt,tt,tt,tt,tt,tt,tt,tt,tt,tt,tt,tt,ff,ff,ff,ff,ff,ff,ff,ff,ff,ff,ff,ff,ff,ff,ff,ff,ff,ff,ff,ff,ff,ff,ff,ff,ff,ff,ff,ff,ff,ff] rfl rfl (take_ofW HT_.out HW_.out (by kernel_rfl)) (fun _ _ _ h => h) ?_ hHeld ?_ ?_
 ·cases b9
  ·(refine Or.inl ⟨by rfl, ?_⟩; intro w' s0; have xq := (blk_cell (blk_below K2.out s0) 12).trans rfl; go_simp; try rfl)
  ·exact Or.inr ⟨by rfl, rfl⟩
 rotate_left
 ·(simp only [Act.put,zA,zB,zC,i64_w,i32_w]; rfl)
 refine pure_ (i := 72) (N := some 78) (v := if b9 = true then undef else .pointer (some ⟨g3, 12, none⟩)) (a' := ?_) #[tt,tt,tt,tt,tt,tt,tt,tt,tt,tt,tt,tt,tt,tt,tt,tt,tt,tt,tt,tt,tt,tt,tt,tt,tt,tt,tt,tt,tt,tt,tt,tt,tt,tt,tt,tt,tt,tt,tt,tt,tt,tt,tt,tt,tt,tt,tt,tt,tt,tt,tt,tt,tt,tt,tt,tt,tt,tt,tt,tt,tt,tt,tt,tt,tt,tt,tt,tt,tt,tt,tt,tt,tt,ff,ff,ff,ff,ff,ff,ff,ff,ff,ff,ff,ff,ff,ff,ff,ff,ff,ff,ff,ff,ff,ff,ff,ff,ff,ff,ff,ff,ff] rfl rfl (any_of HT_.out (by kernel_rfl)) (fun _ _ _ h => h) ?_ ?_ ?_
 ·cases b9
  ·(refine Or.inl ⟨by rfl, ?_⟩; intro w'; go_simp; try rfl)
  ·exact Or.inr ⟨by rfl, rfl⟩
 rotate_left
 ·(simp only [Act.put,zA,zB,zC,i64_w,i32_w]; rfl)
 refine take_ (i := 73) (N := some 79) (v := if b9 = true then undef else .int .u64 c12) (a' := ?_) #[tt,tt,tt,tt,tt,tt,tt,tt,tt,tt,tt,tt,tt,tt,tt,tt,tt,tt,tt,tt,tt,tt,tt,tt,tt,tt,tt,tt,tt,tt,tt,tt,tt,tt,tt,tt,tt,tt,tt,tt,tt,tt,tt,tt,tt,tt,tt,tt,tt,tt,tt,tt,tt,tt,tt,tt,tt,tt,tt,tt,tt,tt,tt,tt,tt,tt,tt,tt,tt,tt,tt,tt,tt,tt,ff,ff,ff,ff,ff,ff,ff,ff,ff,ff,ff,ff,ff,ff,ff,ff,ff,ff,ff,ff,ff,ff,ff,ff,ff,ff,ff,ff] rfl rfl (take_ofW HT_.out HW_.out (by kernel_rfl)) (fun _ _ _ h => h) ?_ hHeld ?_ ?_
 ·cases b9
  ·(refine Or.inl ⟨by rfl, ?_⟩; intro w' s0; have xq := (blk_cell (blk_below K3.out s0) 12).trans rfl; go_simp; try rfl)
  ·exact Or.inr ⟨by rfl, rfl⟩
 rotate_left
 ·(simp only [Act.put,zA,zB,zC,i64_w,i32_w]; rfl)
 refine pure_ (i := 74) (N := some 80) (v := if b9 = true then undef else .bool (a12 != c12)) (a' := ?_) #[tt,tt,tt,tt,tt,tt,tt,tt,tt,tt,tt,tt,tt,tt,tt,tt,tt,tt,tt,tt,tt,tt,tt,tt,tt,tt,tt,tt,tt,tt,tt,tt,tt,tt,tt,tt,tt,tt,tt,tt,tt,tt,tt,tt,tt,tt,tt,tt,tt,tt,tt,tt,tt,tt,tt,tt,tt,tt,tt,tt,tt,tt,tt,tt,tt,tt,tt,tt,tt,tt,tt,tt,tt,tt,tt,ff,ff,ff,ff,ff,ff,ff,ff,ff,ff,ff,ff,ff,ff,ff,ff,ff,ff,ff,ff,ff,ff,ff,ff,ff,ff,ff] rfl rfl (any_of HT_.out (by kernel_rfl)) (fun _ _ _ h => h) ?_ ?_ ?_
 ·cases b9
  ·(refine Or.inl ⟨by rfl, ?_⟩; intro w'; go_simp; try rfl)
  ·exact Or.inr ⟨by rfl, rfl⟩
 rotate_left
 ·(simp only [Act.put,zA,zB,zC,i64_w,i32_w]; rfl)
 refine pure_ (i := 75) (N := some 81) (v := .bool (b9 || (a12 != c12))) (a' := ?_) #[tt,tt,tt,tt,tt,tt,tt,tt,tt,tt,tt,tt,tt,tt,tt,tt,tt,tt,tt,tt,tt,tt,tt,tt,tt,tt,tt,tt,tt,tt,tt,tt,tt,tt,tt,tt,tt,tt,tt,tt,tt,tt,tt,tt,tt,tt,tt,tt,tt,tt,tt,tt,tt,tt,tt,tt,tt,tt,tt,tt,tt,tt,tt,tt,tt,tt,tt,tt,tt,tt,tt,tt,tt,tt,tt,tt,ff,ff,ff,ff,ff,ff,ff,ff,ff,ff,ff,ff,ff,ff,ff,ff,ff,ff,ff,ff,ff,ff,ff,ff,ff,ff] rfl rfl (any_of HT_.out (by kernel_rfl)) (fun _ _ _ h => h) (Or.inl ⟨by rfl, ?_⟩) ?_ ?_
 ·(intro w'; cases b9 <;> go_simp; try rfl)
 rotate_left
 ·(simp only [Act.put,zA,zB,zC,i64_w,i32_w]; rfl)
 (try generalize (if b9 = true then undef else .pointer (some ⟨g2, 12, none⟩)) = x0_10)
 (try generalize (if b9 = true then undef else .int .u64 a12) = x1_10)
 (try generalize (if b9 = true then undef else .pointer (some ⟨g3, 12, none⟩)) = x2_10)
 (try generalize (if b9 = true then undef else .int .u64 c12) = x3_10)
 (try generalize (if b9 = true then undef else .bool (a12 != c12)) = x4_10)
 generalize hb10 : (b9 || (a12 != c12)) = b10
 have Hb10 := Aside0.mk hb10
 clear hb10
 refine pure_ (i := 76) (N := some 82) (v := .bool b10) (a' := ?_) #[tt,tt,tt,tt,tt,tt,tt,tt,tt,tt,tt,tt,tt,tt,tt,tt,tt,tt,tt,tt,tt,tt,tt,tt,tt,tt,tt,tt,tt,tt,tt,tt,tt,tt,tt,tt,tt,tt,tt,tt,tt,tt,tt,tt,tt,tt,tt,tt,tt,tt,tt,tt,tt,tt,tt,tt,tt,tt,tt,tt,tt,tt,tt,tt,tt,tt,tt,tt,tt,tt,tt,tt,tt,tt,tt,tt,tt,ff,ff,ff,ff,ff,ff,ff,ff,ff,ff,ff,ff,ff,ff,ff,ff,ff,ff,ff,ff,ff,ff,ff,ff,ff] rfl rfl (any_of HT_.out (by kernel_rfl)) (fun _ _ _ h => h) (Or.inl ⟨by rfl, ?_⟩) ?_ ?_
 ·(intro w'; go_simp; try rfl)
 rotate_left
 ·(simp only [Act.put,zA,zB,zC,i64_w,i32_w]; rfl)
 refine pure_ (i := 77) (N := some 83) (v := if b10 = true then undef else .pointer (some ⟨g2, 13, none⟩)) (a' := ?_) #[tt,tt,tt,tt,tt,tt,tt,tt,tt,tt,tt,tt,tt,tt,tt,tt,tt,tt,tt,tt,tt,tt,tt,tt,tt,tt,tt,tt,tt,tt,tt,tt,tt,tt,tt,tt,tt,tt,tt,tt,tt,tt,tt,tt,tt,tt,tt,tt,tt,tt,tt,tt,tt,tt,tt,tt,tt,tt,tt,tt,tt,tt,tt,tt,tt,tt,tt,tt,tt,tt,tt,tt,tt,tt,tt,tt,tt,tt,ff,ff,ff,ff,ff,ff,ff,ff,ff,ff,ff,ff,ff,ff,ff,ff,ff,ff,ff,ff,ff,ff,ff,ff] rfl rfl (any_of HT_.out (by kernel_rfl)) (fun _ _ _ h => h) ?_ ?_ ?_
 ·cases b10
  ·(refine Or.inl ⟨by rfl, ?_⟩; intro w'; go_simp; try rfl)
  ·exact Or.inr ⟨by rfl, rfl⟩
 rotate_left
 ·(simp only [Act.put,zA,zB,zC,i64_w,i32_w]; rfl)
 refine pure_ (i := 80) (N := some 86) (v := if b10 = true then undef else .pointer (some ⟨g3, 13, none⟩)) (a' := ?_) #[tt,tt,tt,tt,tt,tt,tt,tt,tt,tt,tt,tt,tt,tt,tt,tt,tt,tt,tt,tt,tt,tt,tt,tt,tt,tt,tt,tt,tt,tt,tt,tt,tt,tt,tt,tt,tt,tt,tt,tt,tt,tt,tt,tt,tt,tt,tt,tt,tt,tt,tt,tt,tt,tt,tt,tt,tt,tt,tt,tt,tt,tt,tt,tt,tt,tt,tt,tt,tt,tt,tt,tt,tt,tt,tt,tt,tt,tt,ff,ff,tt,ff,ff,ff,ff,ff,ff,ff,ff,ff,ff,ff,ff,ff,ff,ff,ff,ff,ff,ff,ff,ff] rfl rfl (any_of HT_.out (by kernel_rfl)) (fun _ _ _ h => h) ?_ ?_ ?_
 ·cases b10
  ·(refine Or.inl ⟨by rfl, ?_⟩; intro w'; go_simp; try rfl)
  ·exact Or.inr ⟨by rfl, rfl⟩
 rotate_left
 ·(simp only [Act.put,zA,zB,zC,i64_w,i32_w]; rfl)
 refine take_ (i := 78) (N := some 84) (v := if b10 = true then undef else .slice Ax13 lx13.length nx13) (a' := ?_) #[tt,tt,tt,tt,tt,tt,tt,tt,tt,tt,tt,tt,tt,tt,tt,tt,tt,tt,tt,tt,tt,tt,tt,tt,tt,tt,tt,tt,tt,tt,tt,tt,tt,tt,tt,tt,tt,tt,tt,tt,tt,tt,tt,tt,tt,tt,tt,tt,tt,tt,tt,tt,tt,tt,tt,tt,tt,tt,tt,tt,tt,tt,tt,tt,tt,tt,tt,tt,tt,tt,tt,tt,tt,tt,tt,tt,tt,tt,tt,ff,tt,ff,ff,ff,ff,ff,ff,ff,ff,ff,ff,ff,ff,ff,ff,ff,ff,ff,ff,ff,ff,ff] rfl rfl (take_ofW HT_.out HW_.out (by kernel_rfl)) (fun _ _ _ h => h) ?_ hHeld ?_ ?_
 ·cases b10
  ·(refine Or.inl ⟨by rfl, ?_⟩; intro w' s0; have xq := (blk_cell (blk_below K2.out s0) 13).trans rfl; go_simp; try rfl)
  ·exact Or.inr ⟨by rfl, rfl⟩
 rotate_left
 ·(simp only [Act.put,zA,zB,zC,i64_w,i32_w]; rfl)
 refine take_ (i := 81) (N := some 87) (v := if b10 = true then undef else .slice Ay13 ly13.length ny13) (a' := ?_) #[tt,tt,tt,tt,tt,tt,tt,tt,tt,tt,tt,tt,tt,tt,tt,tt,tt,tt,tt,tt,tt,tt,tt,tt,tt,tt,tt,tt,tt,tt,tt,tt,tt,tt,tt,tt,tt,tt,tt,tt,tt,tt,tt,tt,tt,tt,tt,tt,tt,tt,tt,tt,tt,tt,tt,tt,tt,tt,tt,tt,tt,tt,tt,tt,tt,tt,tt,tt,tt,tt,tt,tt,tt,tt,tt,tt,tt,tt,tt,ff,tt,tt,ff,ff,ff,ff,ff,ff,ff,ff,ff,ff,ff,ff,ff,ff,ff,ff,ff,ff,ff,ff] rfl rfl (take_ofW HT_.out HW_.out (by kernel_rfl)) (fun _ _ _ h => h) ?_ hHeld ?_ ?_
 ·cases b10
  ·(refine Or.inl ⟨by rfl, ?_⟩; intro w' s0; have xq := (blk_cell (blk_below K3.out s0) 13).trans rfl; go_simp; try rfl)
  ·exact Or.inr ⟨by rfl, rfl⟩
 rotate_left
 ·(simp only [Act.put,zA,zB,zC,i64_w,i32_w]; rfl)
 refine pure_ (i := 79) (N := some 85) (v := if b10 = true then undef else .int .i64 (lx13.length : Int)) (a' := ?_) #[tt,tt,tt,tt,tt,tt,tt,tt,tt,tt,tt,tt,tt,tt,tt,tt,tt,tt,tt,tt,tt,tt,tt,tt,tt,tt,tt,tt,tt,tt,tt,tt,tt,tt,tt,tt,tt,tt,tt,tt,tt,tt,tt,tt,tt,tt,tt,tt,tt,tt,tt,tt,tt,tt,tt,tt,tt,tt,tt,tt,tt,tt,tt,tt,tt,tt,tt,tt,tt,tt,tt,tt,tt,tt,tt,tt,tt,tt,tt,tt,tt,tt,ff,ff,ff,ff,ff,ff,ff,ff,ff,ff,ff,ff,ff,ff,ff,ff,ff,ff,ff,ff] rfl rfl (any_of HT_.out (by kernel_rfl)) (fun _ _ _ h => h) ?_ ?_ ?_
 ·cases b10
  ·(refine Or.inl ⟨by rfl, ?_⟩; intro w'; go_simp; try rfl)
  ·exact Or.inr ⟨by rfl, rfl⟩
 rotate_left
 ·(simp only [Act.put,zA,zB,zC,i64_w,i32_w]; rfl)
 refine pure_ (i := 82) (N := some 88) (v := if b10 = true then undef else .int .i64 (ly13.length : Int)) (a' := ?_) #[tt,tt,tt,tt,tt,tt,tt,tt,tt,tt,tt,tt,tt,tt,tt,tt,tt,tt,tt,tt,tt,tt,tt,tt,tt,tt,tt,tt,tt,tt,tt,tt,tt,tt,tt,tt,tt,tt,tt,tt,tt,tt,tt,tt,tt,tt,tt,tt,tt,tt,tt,tt,tt,tt,tt,tt,tt,tt,tt,tt,tt,tt,tt,tt,tt,tt,tt,tt,tt,tt,tt,tt,tt,tt,tt,tt,tt,tt,tt,tt,tt,tt,tt,ff,ff,ff,ff,ff,ff,ff,ff,ff,ff,ff,ff,ff,ff,ff,ff,ff,ff,ff] rfl rfl (any_of HT_.out (by kernel_rfl)) (fun _ _ _ h => h) ?_ ?_ ?_
 ·cases b10
  ·(refine Or.inl ⟨by rfl, ?_⟩; intro w'; go_simp; try rfl)
  ·exact Or.inr ⟨by rfl, rfl⟩
 rotate_left
 ·(simp only [Act.put,zA,zB,zC,i64_w,i32_w]; rfl)
 refine pure_ (i := 83) (N := some 89) (v := if b10 = true then undef else .bool ((lx13.length : Int) != (ly13.length : Int))) (a' := ?_) #[tt,tt,tt,tt,tt,tt,tt,tt,tt,tt,tt,tt,tt,tt,tt,tt,tt,tt,tt,tt,tt,tt,tt,tt,tt,tt,tt,tt,tt,tt,tt,tt,tt,tt,tt,tt,tt,tt,tt,tt,tt,tt,tt,tt,tt,tt,tt,tt,tt,tt,tt,tt,tt,tt,tt,tt,tt,tt,tt,tt,tt,tt,tt,tt,tt,tt,tt,tt,tt,tt,tt,tt,tt,tt,tt,tt,tt,tt,tt,tt,tt,tt,tt,tt,ff,ff,ff,ff,ff,ff,ff,ff,ff,ff,ff,ff,ff,ff,ff,ff,ff,ff] rfl rfl (any_of HT_.out (by kernel_rfl)) (fun _ _ _ h => h) ?_ ?_ ?_
 ·cases b10
  ·(refine Or.inl ⟨by rfl, ?_⟩; intro w'; go_simp; try rfl)
  ·exact Or.inr ⟨by rfl, rfl⟩
 rotate_left
 ·(simp only [Act.put,zA,zB,zC,i64_w,i32_w]; rfl)
 refine pure_ (i := 84) (N := some 90) (v := .bool (b10 || ((lx13.length : Int) != (ly13.length : Int)))) (a' := ?_) #[tt,tt,tt,tt,tt,tt,tt,tt,tt,tt,tt,tt,tt,tt,tt,tt,tt,tt,tt,tt,tt,tt,tt,tt,tt,tt,tt,tt,tt,tt,tt,tt,tt,tt,tt,tt,tt,tt,tt,tt,tt,tt,tt,tt,tt,tt,tt,tt,tt,tt,tt,tt,tt,tt,tt,tt,tt,tt,tt,tt,tt,tt,tt,tt,tt,tt,tt,tt,tt,tt,tt,tt,tt,tt,tt,tt,tt,tt,tt,tt,tt,tt,tt,tt,tt,ff,ff,ff,ff,ff,ff,ff,ff,ff,ff,ff,ff,ff,ff,ff,ff,ff] rfl rfl (any_of HT_.out (by kernel_rfl)) (fun _ _ _ h => h) (Or.inl ⟨by rfl, ?_⟩) ?_ ?_
 ·(intro w'; cases b10 <;> go_simp; try rfl)
 rotate_left
 ·(simp only [Act.put,zA,zB,zC,i64_w,i32_w]; rfl)
 (try generalize (if b10 = true then undef else .pointer (some ⟨g2, 13, none⟩)) = x0_11)
 (try generalize (if b10 = true then undef else .pointer (some ⟨g3, 13, none⟩)) = x1_11)
 (try generalize (if b10 = true then undef else .slice Ax13 lx13.length nx13) = x2_11)
 (try generalize (if b10 = true then undef else .slice Ay13 ly13.length ny13) = x3_11)
 (try generalize (if b10 = true then undef else .int .i64 (lx13.length : Int)) = x4_11)
 (try generalize (if b10 = true then undef else .int .i64 (ly13.length : Int)) = x5_11)
 (try generalize (if b10 = true then undef else .bool ((lx13.length : Int) != (ly13.length : Int))) = x6_11)
 generalize hb11 : (b10 || ((lx13.length : Int) != (ly13.length : Int))) = b11
 have Hb11 := Aside0.mk hb11
 clear hb11
 refine pure_ (i := 85) (N := some 91) (v := .bool b11) (a' := ?_) #[tt,tt,tt,tt,tt,tt,tt,tt,tt,tt,tt,tt,tt,tt,tt,tt,tt,tt,tt,tt,tt,tt,tt,tt,tt,tt,tt,tt,tt,tt,tt,tt,tt,tt,tt,tt,tt,tt,tt,tt,tt,tt,tt,tt,tt,tt,tt,tt,tt,tt,tt,tt,tt,tt,tt,tt,tt,tt,tt,tt,tt,tt,tt,tt,tt,tt,tt,tt,tt,tt,tt,tt,tt,tt,tt,tt,tt,tt,tt,tt,tt,tt,tt,tt,tt,tt,ff,ff,ff,ff,ff,ff,ff,ff,ff,ff,ff,ff,ff,ff,ff,ff] rfl rfl (any_of HT_.out (by kernel_rfl)) (fun _ _ _ h => h) (Or.inl ⟨by rfl, ?_⟩) ?_ ?_
 ·(intro w'; go_simp; try rfl)
 rotate_left
 ·(simp only [Act.put,zA,zB,zC,i64_w,i32_w]; rfl)
 refine pure_ (i := 86) (N := some 92) (v := if b11 = true then undef else .pointer (some ⟨g2, 14, none⟩)) (a' := ?_) #[tt,tt,tt,tt,tt,tt,tt,tt,tt,tt,tt,tt,tt,tt,tt,tt,tt,tt,tt,tt,tt,tt,tt,tt,tt,tt,tt,tt,tt,tt,tt,tt,tt,tt,tt,tt,tt,tt,tt,tt,tt,tt,tt,tt,tt,tt,tt,tt,tt,tt,tt,tt,tt,tt,tt,tt,tt,tt,tt,tt,tt,tt,tt,tt,tt,tt,tt,tt,tt,tt,tt,tt,tt,tt,tt,tt,tt,tt,tt,tt,tt,tt,tt,tt,tt,tt,tt,ff,ff,ff,ff,ff,ff,ff,ff,ff,ff,ff,ff,ff,ff,ff] rfl rfl (any_of HT_.out (by kernel_rfl)) (fun _ _ _ h => h) ?_ ?_ ?_
 ·cases b11
  ·(refine Or.inl ⟨by rfl, ?_⟩; intro w'; go_simp; try rfl)
  ·exact Or.inr ⟨by rfl, rfl⟩
 rotate_left
 ·(simp only [Act.put,zA,zB,zC,i64_w,i32_w]; rfl)
 refine take_ (i := 87) (N := some 93) (v := if b11 = true then undef else .slice Ax14 lx14.length nx14) (a' := ?_) #[tt,tt,tt,tt,tt,tt,tt,tt,tt,tt,tt,tt,tt,tt,tt,tt,tt,tt,tt,tt,tt,tt,tt,tt,tt,tt,tt,tt,tt,tt,tt,tt,tt,tt,tt,tt,tt,tt,tt,tt,tt,tt,tt,tt,tt,tt,tt,tt,tt,tt,tt,tt,tt,tt,tt,tt,tt,tt,tt,tt,tt,tt,tt,tt,tt,tt,tt,tt,tt,tt,tt,tt,tt,tt,tt,tt,tt,tt,tt,tt,tt,tt,tt,tt,tt,tt,tt,tt,ff,ff,ff,ff,ff,ff,ff,ff,ff,ff,ff,ff,ff,ff] rfl rfl (take_ofW HT_.out HW_.out (by kernel_rfl)) (fun _ _ _ h => h) ?_ hHeld ?_ ?_
 ·cases b11
  ·(refine Or.inl ⟨by rfl, ?_⟩; intro w' s0; have xq := (blk_cell (blk_below K2.out s0) 14).trans rfl; go_simp; try rfl)
  ·exact Or.inr ⟨by rfl, rfl⟩
 rotate_left
 ·(simp only [Act.put,zA,zB,zC,i64_w,i32_w]; rfl)
 refine pure_ (i := 88) (N := some 94) (v := if b11 = true then undef else .pointer (some ⟨g3, 14, none⟩)) (a' := ?_) #[tt,tt,tt,tt,tt,tt,tt,tt,tt,tt,tt,tt,tt,tt,tt,tt,tt,tt,tt,tt,tt,tt,tt,tt,tt,tt,tt,tt,tt,tt,tt,tt,tt,tt,tt,tt,tt,tt,tt,tt,tt,tt,tt,tt,tt,tt,tt,tt,tt,tt,tt,tt,tt,tt,tt,tt,tt,tt,tt,tt,tt,tt,tt,tt,tt,tt,tt,tt,tt,tt,tt,tt,tt,tt,tt,tt,tt,tt,tt,tt,tt,tt,tt,tt,tt,tt,tt,tt,tt,ff,ff,ff,ff,ff,ff,ff,ff,ff,ff,ff,ff,ff] rfl rfl (any_of HT_.out (by kernel_rfl)) (fun _ _ _ h => h) ?_ ?_ ?_
 ·cases b11
  ·(refine Or.inl ⟨by rfl, ?_⟩; intro w'; go_simp; try rfl)
  ·exact Or.inr ⟨by rfl, rfl⟩
 rotate_left
 ·(simp only [Act.put,zA,zB,zC,i64_w,i32_w]; rfl)
 refine take_ (i := 89) (N := some 95) (v := if b11 = true then undef else .slice Ay14 ly14.length ny14) (a' := ?_) #[tt,tt,tt,tt,tt,tt,tt,tt,tt,tt,tt,tt,tt,tt,tt,tt,tt,tt,tt,tt,tt,tt,tt,tt,tt,tt,tt,tt,tt,tt,tt,tt,tt,tt,tt,tt,tt,tt,tt,tt,tt,tt,tt,tt,tt,tt,tt,tt,tt,tt,tt,tt,tt,tt,tt,tt,tt,tt,tt,tt,tt,tt,tt,tt,tt,tt,tt,tt,tt,tt,tt,tt,tt,tt,tt,tt,tt,tt,tt,tt,tt,tt,tt,tt,tt,tt,tt,tt,tt,tt,ff,ff,ff,ff,ff,ff,ff,ff,ff,ff,ff,ff] rfl rfl (take_ofW HT_.out HW_.out (by kernel_rfl)) (fun _ _ _ h => h) ?_ hHeld ?_ ?_
 ·cases b11
  ·(refine Or.inl ⟨by rfl, ?_⟩; intro w' s0; have xq := (blk_cell (blk_below K3.out s0) 14).trans rfl; go_simp; try rfl)
  ·exact Or.inr ⟨by rfl, rfl⟩
 rotate_left
 ·(simp only [Act.put,zA,zB,zC,i64_w,i32_w]; rfl)
 refine one_ (i := 90) (N := some 96) #[tt,tt,tt,tt,tt,tt,tt,tt,tt,tt,tt,tt,tt,tt,tt,tt,tt,tt,tt,tt,tt,tt,tt,tt,tt,tt,tt,tt,tt,tt,tt,tt,tt,tt,tt,tt,tt,tt,tt,tt,tt,tt,tt,tt,tt,tt,tt,tt,tt,tt,tt,tt,tt,tt,tt,tt,tt,tt,tt,tt,tt,tt,tt,tt,tt,tt,tt,tt,tt,tt,tt,tt,tt,tt,tt,tt,tt,tt,tt,tt,tt,tt,tt,tt,tt,tt,tt,tt,tt,tt,tt,ff,ff,ff,ff,ff,ff,ff,ff,ff,ff,ff] rfl rfl (one_of HT_.out (by kernel_rfl)) (by decide) (fun K hK => ?_)
 refine bothN_ (b := b11) (v := .bool r14) (S := fun w' => Below wd.heap.size wd w') (fun h => by subst h; rfl) (fun h K' hK' => ?_) hHeld ?_
 ·subst h
  refine goes_ Try.func46 (by kernel_rfl) rfl #[.slice Ax14 lx14.length nx14, .slice Ay14 ly14.length ny14] (by rfl) rfl rfl (by (try simp only [List.map_toArray, List.map_cons, List.map_nil]); first | done | rfl) ?_
  refine (conventicleref12_Same.calls _ Ax14 nx14 lx14 Ay14 ny14 ly14 r14 _ (Kd.C_below Hx14.out hHeld) Mx14.out (Kd.C_below Hy14.out hHeld) My14.out F14.out).mono ?_
  rintro e w' ⟨rfl, hb⟩
  exact ⟨_, rfl, hK' _ (below_step hHeld (Drawn0.below hb))⟩
 intro wc12 hb_
 refine hK _ _ hb_ (fun hHeld => ?_)
 clear hK K
 refine norm_ (a' := ?_) ?_ ?_
 rotate_left
 ·(show Act.put _ (some 96) _ = _; simp only [Act.put,zA,zB,zC,i64_w,i32_w]; rfl)
 refine pure_ (i := 91) (N := some 97) (v := if b11 = true then undef else .bool (!r14)) (a' := ?_) #[tt,tt,tt,tt,tt,tt,tt,tt,tt,tt,tt,tt,tt,tt,tt,tt,tt,tt,tt,tt,tt,tt,tt,tt,tt,tt,tt,tt,tt,tt,tt,tt,tt,tt,tt,tt,tt,tt,tt,tt,tt,tt,tt,tt,tt,tt,tt,tt,tt,tt,tt,tt,tt,tt,tt,tt,tt,tt,tt,tt,tt,tt,tt,tt,tt,tt,tt,tt,tt,tt,tt,tt,tt,tt,tt,tt,tt,tt,tt,tt,tt,tt,tt,tt,tt,tt,tt,tt,tt,tt,tt,tt,ff,ff,ff,ff,ff,ff,ff,ff,ff,ff] rfl rfl (any_of HT_.out (by kernel_rfl)) (fun _ _ _ h => h) ?_ ?_ ?_
 ·cases b11
  ·(refine Or.inl ⟨by rfl, ?_⟩; intro w'; go_simp; try rfl)
  ·exact Or.inr ⟨by rfl, rfl⟩
 rotate_left
 ·(simp only [Act.put,zA,zB,zC,i64_w,i32_w]; rfl)
 refine pure_ (i := 92) (N := some 98) (v := .bool (b11 || (!r14))) (a' := ?_) #[tt,tt,tt,tt,tt,tt,tt,tt,tt,tt,tt,tt,tt,tt,tt,tt,tt,tt,tt,tt,tt,tt,tt,tt,tt,tt,tt,tt,tt,tt,tt,tt,tt,tt,tt,tt,tt,tt,tt,tt,tt,tt,tt,tt,tt,tt,tt,tt,tt,tt,tt,tt,tt,tt,tt,tt,tt,tt,tt,tt,tt,tt,tt,tt,tt,tt,tt,tt,tt,tt,tt,tt,tt,tt,tt,tt,tt,tt,tt,tt,tt,tt,tt,tt,tt,tt,tt,tt,tt,tt,tt,tt,tt,ff,ff,ff,ff,ff,ff,ff,ff,ff] rfl rfl (any_of HT_.out (by kernel_rfl)) (fun _ _ _ h => h) (Or.inl ⟨by rfl, ?_⟩) ?_ ?_
 ·(intro w'; cases b11 <;> go_simp; try rfl)
 rotate_left
 ·(simp only [Act.put,zA,zB,zC,i64_w,i32_w]; rfl)
 (try generalize (if b11 = true then undef else .pointer (some ⟨g2, 14, none⟩)) = x0_12)
 (try generalize (if b11 = true then undef else .slice Ax14 lx14.length nx14) = x1_12)
 (try generalize (if b11 = true then undef else .pointer (some ⟨g3, 14, none⟩)) = x2_12)
 (try generalize (if b11 = true then undef else .slice Ay14 ly14.length ny14) = x3_12)
 (try generalize (if b11 = true then undef else .bool r14) = x4_12)
 (try generalize (if b11 = true then undef else .bool (!r14)) = x5_12)
 generalize hb12 : (b11 || (!r14)) = b12
 have Hb12 := Aside0.mk hb12
 clear hb12
 refine pure_ (i := 93) (N := some 99) (v := .bool b12) (a' := ?_) #[tt,tt,tt,tt,tt,tt,tt,tt,tt,tt,tt,tt,tt,tt,tt,tt,tt,tt,tt,tt,tt,tt,tt,tt,tt,tt,tt,tt,tt,tt,tt,tt,tt,tt,tt,tt,tt,tt,tt,tt,tt,tt,tt,tt,tt,tt,tt,tt,tt,tt,tt,tt,tt,tt,tt,tt,tt,tt,tt,tt,tt,tt,tt,tt,tt,tt,tt,tt,tt,tt,tt,tt,tt,tt,tt,tt,tt,tt,tt,tt,tt,tt,tt,tt,tt,tt,tt,tt,tt,tt,tt,tt,tt,tt,ff,ff,ff,ff,ff,ff,ff,ff] rfl rfl (any_of HT_.out (by kernel_rfl)) (fun _ _ _ h => h) (Or.inl ⟨by rfl, ?_⟩) ?_ ?_
 ·(intro w'; go_simp; try rfl)
 rotate_left
 ·(simp only [Act.put,zA,zB,zC,i64_w,i32_w]; rfl)
 refine pure_ (i := 94) (N := some 100) (v := if b12 = true then undef else .pointer (some ⟨g2, 15, none⟩)) (a' := ?_) #[tt,tt,tt,tt,tt,tt,tt,tt,tt,tt,tt,tt,tt,tt,tt,tt,tt,tt,tt,tt,tt,tt,tt,tt,tt,tt,tt,tt,tt,tt,tt,tt,tt,tt,tt,tt,tt,tt,tt,tt,tt,tt,tt,tt,tt,tt,tt,tt,tt,tt,tt,tt,tt,tt,tt,tt,tt,tt,tt,tt,tt,tt,tt,tt,tt,tt,tt,tt,tt,tt,tt,tt,tt,tt,tt,tt,tt,tt,tt,tt,tt,tt,tt,tt,tt,tt,tt,tt,tt,tt,tt,tt,tt,tt,tt,ff,ff,ff,ff,ff,ff,ff] rfl rfl (any_of HT_.out (by kernel_rfl)) (fun _ _ _ h => h) ?_ ?_ ?_
 ·cases b12
  ·(refine Or.inl ⟨by rfl, ?_⟩; intro w'; go_simp; try rfl)
  ·exact Or.inr ⟨by rfl, rfl⟩
 rotate_left
 ·(simp only [Act.put,zA,zB,zC,i64_w,i32_w]; rfl)
 refine pure_ (i := 97) (N := some 103) (v := if b12 = true then undef else .pointer (some ⟨g3, 15, none⟩)) (a' := ?_) #[tt,tt,tt,tt,tt,tt,tt,tt,tt,tt,tt,tt,tt,tt,tt,tt,tt,tt,tt,tt,tt,tt,tt,tt,tt,tt,tt,tt,tt,tt,tt,tt,tt,tt,tt,tt,tt,tt,tt,tt,tt,tt,tt,tt,tt,tt,tt,tt,tt,tt,tt,tt,tt,tt,tt,tt,tt,tt,tt,tt,tt,tt,tt,tt,tt,tt,tt,tt,tt,tt,tt,tt,tt,tt,tt,tt,tt,tt,tt,tt,tt,tt,tt,tt,tt,tt,tt,tt,tt,tt,tt,tt,tt,tt,tt,ff,ff,tt,ff,ff,ff,ff] rfl rfl (any_of HT_.out (by kernel_rfl)) (fun _ _ _ h => h) ?_ ?_ ?_
 ·cases b12
  ·(refine Or.inl ⟨by rfl, ?_⟩; intro w'; go_simp; try rfl)
  ·exact Or.inr ⟨by rfl, rfl⟩
 rotate_left
 ·(simp only [Act.put,zA,zB,zC,i64_w,i32_w]; rfl)
 refine take_ (i := 95) (N := some 101) (v := if b12 = true then undef else .float .f64 a15) (a' := ?_) #[tt,tt,tt,tt,tt,tt,tt,tt,tt,tt,tt,tt,tt,tt,tt,tt,tt,tt,tt,tt,tt,tt,tt,tt,tt,tt,tt,tt,tt,tt,tt,tt,tt,tt,tt,tt,tt,tt,tt,tt,tt,tt,tt,tt,tt,tt,tt,tt,tt,tt,tt,tt,tt,tt,tt,tt,tt,tt,tt,tt,tt,tt,tt,tt,tt,tt,tt,tt,tt,tt,tt,tt,tt,tt,tt,tt,tt,tt,tt,tt,tt,tt,tt,tt,tt,tt,tt,tt,tt,tt,tt,tt,tt,tt,tt,tt,ff,tt,ff,ff,ff,ff] rfl rfl (take_ofW HT_.out HW_.out (by kernel_rfl)) (fun _ _ _ h => h) ?_ hHeld ?_ ?_
 ·cases b12
  ·(refine Or.inl ⟨by rfl, ?_⟩; intro w' s0; have xq := (blk_cell (blk_below K2.out s0) 15).trans rfl; go_simp; try rfl)
  ·exact Or.inr ⟨by rfl, rfl⟩
 rotate_left
 ·(simp only [Act.put,zA,zB,zC,i64_w,i32_w]; rfl)
 refine take_ (i := 98) (N := some 104) (v := if b12 = true then undef else .float .f64 c15) (a' := ?_) #[tt,tt,tt,tt,tt,tt,tt,tt,tt,tt,tt,tt,tt,tt,tt,tt,tt,tt,tt,tt,tt,tt,tt,tt,tt,tt,tt,tt,tt,tt,tt,tt,tt,tt,tt,tt,tt,tt,tt,tt,tt,tt,tt,tt,tt,tt,tt,tt,tt,tt,tt,tt,tt,tt,tt,tt,tt,tt,tt,tt,tt,tt,tt,tt,tt,tt,tt,tt,tt,tt,tt,tt,tt,tt,tt,tt,tt,tt,tt,tt,tt,tt,tt,tt,tt,tt,tt,tt,tt,tt,tt,tt,tt,tt,tt,tt,ff,tt,tt,ff,ff,ff] rfl rfl (take_ofW HT_.out HW_.out (by kernel_rfl)) (fun _ _ _ h => h) ?_ hHeld ?_ ?_
 ·cases b12
  ·(refine Or.inl ⟨by rfl, ?_⟩; intro w' s0; have xq := (blk_cell (blk_below K3.out s0) 15).trans rfl; go_simp; try rfl)
  ·exact Or.inr ⟨by rfl, rfl⟩
 rotate_left
 ·(simp only [Act.put,zA,zB,zC,i64_w,i32_w]; rfl)
 refine one_ (i := 96) (N := some 102) #[tt,tt,tt,tt,tt,tt,tt,tt,tt,tt,tt,tt,tt,tt,tt,tt,tt,tt,tt,tt,tt,tt,tt,tt,tt,tt,tt,tt,tt,tt,tt,tt,tt,tt,tt,tt,tt,tt,tt,tt,tt,tt,tt,tt,tt,tt,tt,tt,tt,tt,tt,tt,tt,tt,tt,tt,tt,tt,tt,tt,tt,tt,tt,tt,tt,tt,tt,tt,tt,tt,tt,tt,tt,tt,tt,tt,tt,tt,tt,tt,tt,tt,tt,tt,tt,tt,tt,tt,tt,tt,tt,tt,tt,tt,tt,tt,tt,tt,tt,ff,ff,ff] rfl rfl (one_of HT_.out (by kernel_rfl)) (by decide) (fun K hK => ?_)
 refine bothN_ (b := b12) (v := .int .u64 (a15 : Int)) (S := fun w' => Below wd.heap.size wd w') (fun h => by subst h; rfl) (fun h K' hK' => ?_) hHeld ?_
 ·subst h
  refine goesX_ (f := 47) (v := .int .u64 (a15 : Int)) #[.float .f64 a15] (by rfl) rfl rfl (by (try simp only [List.map_toArray, List.map_cons, List.map_nil]); first | done | rfl) (fbits rfl _) ?_
  exact hK' _ hHeld
 intro wc13a hb_
 refine hK _ _ hb_ (fun hHeld => ?_)
 clear hK K
 refine norm_ (a' := ?_) ?_ ?_
 rotate_left
 ·(show Act.put _ (some 102) _ = _; simp only [Act.put,zA,zB,zC,i64_w,i32_w]; rfl)
 refine one_ (i := 99) (N := some 105) #[tt,tt,tt,tt,tt,tt,tt,tt,tt,tt,tt,tt,tt,tt,tt,tt,tt,tt,tt,tt,tt,tt,tt,tt,tt,tt,tt,tt,tt,tt,tt,tt,tt,tt,tt,tt,tt,tt,tt,tt,tt,tt,tt,tt,tt,tt,tt,tt,tt,tt,tt,tt,tt,tt,tt,tt,tt,tt,tt,tt,tt,tt,tt,tt,tt,tt,tt,tt,tt,tt,tt,tt,tt,tt,tt,tt,tt,tt,tt,tt,tt,tt,tt,tt,tt,tt,tt,tt,tt,tt,tt,tt,tt,tt,tt,tt,tt,tt,tt,tt,ff,ff] rfl rfl (one_of HT_.out (by kernel_rfl)) (by decide) (fun K hK => ?_)
 refine bothN_ (b := b12) (v := .int .u64 (c15 : Int)) (S := fun w' => Below wd.heap.size wd w') (fun h => by subst h; rfl) (fun h K' hK' => ?_) hHeld ?_
 ·subst h
  refine goesX_ (f := 47) (v := .int .u64 (c15 : Int)) #[.float .f64 c15] (by rfl) rfl rfl (by (try simp only [List.map_toArray, List.map_cons, List.map_nil]); first | done | rfl) (fbits rfl _) ?_
  exact hK' _ hHeld
 intro wc13b hb_
 refine hK _ _ hb_ (fun hHeld => ?_)
 clear hK K
 refine norm_ (a' := ?_) ?_ ?_
 rotate_left
 ·(show Act.put _ (some 105) _ = _; simp only [Act.put,zA,zB,zC,i64_w,i32_w]; rfl)
 refine pure_ (i := 100) (N := some 106) (v := if b12 = true then undef else .bool ((a15 : Int) != (c15 : Int))) (a' := ?_) #[tt,tt,tt,tt,tt,tt,tt,tt,tt,tt,tt,tt,tt,tt,tt,tt,tt,tt,tt,tt,tt,tt,tt,tt,tt,tt,tt,tt,tt,tt,tt,tt,tt,tt,tt,tt,tt,tt,tt,tt,tt,tt,tt,tt,tt,tt,tt,tt,tt,tt,tt,tt,tt,tt,tt,tt,tt,tt,tt,tt,tt,tt,tt,tt,tt,tt,tt,tt,tt,tt,tt,tt,tt,tt,tt,tt,tt,tt,tt,tt,tt,tt,tt,tt,tt,tt,tt,tt,tt,tt,tt,tt,tt,tt,tt,tt,tt,tt,tt,tt,tt,ff] rfl rfl (any_of HT_.out (by kernel_rfl)) (fun _ _ _ h => h) ?_ ?_ ?_
 ·cases b12
  ·(refine Or.inl ⟨by rfl, ?_⟩; intro w'; go_simp; try rfl)
  ·exact Or.inr ⟨by rfl, rfl⟩
 rotate_left
 ·(simp only [Act.put,zA,zB,zC,i64_w,i32_w]; rfl)
 refine pure_ (i := 101) (N := some 107) (v := .bool (b12 || ((a15 : Int) != (c15 : Int)))) (a' := ?_) #[tt,tt,tt,tt,tt,tt,tt,tt,tt,tt,tt,tt,tt,tt,tt,tt,tt,tt,tt,tt,tt,tt,tt,tt,tt,tt,tt,tt,tt,tt,tt,tt,tt,tt,tt,tt,tt,tt,tt,tt,tt,tt,tt,tt,tt,tt,tt,tt,tt,tt,tt,tt,tt,tt,tt,tt,tt,tt,tt,tt,tt,tt,tt,tt,tt,tt,tt,tt,tt,tt,tt,tt,tt,tt,tt,tt,tt,tt,tt,tt,tt,tt,tt,tt,tt,tt,tt,tt,tt,tt,tt,tt,tt,tt,tt,tt,tt,tt,tt,tt,tt,tt] rfl rfl (any_of HT_.out (by kernel_rfl)) (fun _ _ _ h => h) (Or.inl ⟨by rfl, ?_⟩) ?_ ?_
 ·(intro w'; cases b12 <;> go_simp; try rfl)
 rotate_left
 ·(simp only [Act.put,zA,zB,zC,i64_w,i32_w]; rfl)
 (try generalize (if b12 = true then undef else .pointer (some ⟨g2, 15, none⟩)) = x0_13)
 (try generalize (if b12 = true then undef else .pointer (some ⟨g3, 15, none⟩)) = x1_13)
 (try generalize (if b12 = true then undef else .float .f64 a15) = x2_13)
 (try generalize (if b12 = true then undef else .float .f64 c15) = x3_13)
 (try generalize (if b12 = true then undef else .int .u64 (a15 : Int)) = x4_13)
 (try generalize (if b12 = true then undef else .int .u64 (c15 : Int)) = x5_13)
 (try generalize (if b12 = true then undef else .bool ((a15 : Int) != (c15 : Int))) = x6_13)
 generalize hb13 : (b12 || ((a15 : Int) != (c15 : Int))) = b13
 have Hb13 := Aside0.mk hb13
 clear hb13
 refine done_ (done_of HT_.out (by kernel_rfl)) ?_
 have BE := Aside0.mk (below_step BD.out hHeld)
 have HF : Aside0 (((((((((((((((a0 != c0) || (a1 != c1)) || (a2 != c2)) || (a3 != c3)) || (a4 != c4)) || (!r5)) || (!(a6 == c6 && (a7 == c7)))) || (a8 != c8)) || (a9 != c9)) || (!(a10 == c10 && (a11 == c11)))) || (a12 != c12)) || ((lx13.length : Int) != (ly13.length : Int))) || (!r14)) || ((a15 : Int) != (c15 : Int))) = b13) := ⟨by rw [Hb0.out, Hb1.out, Hb2.out, Hb3.out, Hb4.out, Hb5.out, Hb6.out, Hb7.out, Hb8.out, Hb9.out, Hb10.out, Hb11.out, Hb12.out, Hb13.out]⟩
 have HLN : Aside0 (b13 = false → lx13.length = ly13.length) := ⟨fun h => by
  rw [h] at HF
  have := HF.out
  simp only [Bool.or_eq_false_iff] at this
  exact Int.ofNat_inj.1 (by simpa using this.1.1.2)⟩
 have KA := Aside0.mk (blk_below K2.out hHeld)
 have KC := Aside0.mk (blk_below K3.out hHeld)
 clear HT_ HW_
 cases hB : b13
 ·rw [hB] at HLN
  have HN := Aside0.mk (HLN.out rfl)
  have hlen : (lx13.length : Int) ≤ 9223372036854775807 := by have := Hx13.out.2.1; omega
  go_wp2
  go_loopw [5] (fun i wr => ∃ j : Nat, i = .int .i64 j ∧ Aside0 (j ≤ lx13.length) ∧ Aside0 (wr.heap[g2]? = some (.cells #[.int .i64 a0, .int .i64 a1, .int .i64 a2, .int .u64 a3, .int .i64 a4, .slice Ax5 lx5.length nx5, .int .u64 a6, .int .u64 a7, .int .u64 a8, .int .u64 a9, .int .u64 a10, .int .u64 a11, .int .u64 a12, .slice Ax13 lx13.length nx13, .slice Ax14 lx14.length nx14, .float .f64 a15] 38 (0, 0))) ∧ Aside0 (wr.heap[g3]? = some (.cells #[.int .i64 c0, .int .i64 c1, .int .i64 c2, .int .u64 c3, .int .i64 c4, .slice Ay5 ly5.length ny5, .int .u64 c6, .int .u64 c7, .int .u64 c8, .int .u64 c9, .int .u64 c10, .int .u64 c11, .int .u64 c12, .slice Ay13 ly13.length ny13, .slice Ay14 ly14.length ny14, .float .f64 c15] 38 (0, 0))) ∧ Aside0 (eqL eq90 lx13 ly13 = eqL eq90 (lx13.drop j) (ly13.drop j)) ∧ Aside0 (Below wd.heap.size wd wr) ∧ Aside0 (Below w.heap.size w wr))
   (fun i _ => lx13.length - (intOf i).toNat)
  case atStart => exact ⟨0, rfl, ⟨Nat.zero_le _⟩, KA, KC, ⟨rfl⟩, ⟨hHeld⟩, BE⟩
  case round =>
   obtain ⟨j, rfl, hj, KAr, KCr, HE, HBd, HBw⟩ := hrel
   have xa := fun i => blk_cell KAr.out i
   by_cases hlt : j < lx13.length
   ·have hlt2 : j < ly13.length := by have := HN.out; omega
    obtain ⟨ad, e, hy0, hy1, hy2, hy3⟩ := at_T90 (Kd.C_below Hx13.out HBd.out) (j : Int) (by omega) (by omega)
    obtain ⟨bd, e', hz0, hz1, hz2, hz3⟩ := at_T90 (Kd.C_below Hy13.out HBd.out) (j : Int) (by omega) (by omega)
    simp only [Int.toNat_natCast] at hy0 hy1 hy2 hy3 hz0 hz1 hz2 hz3
    obtain rfl := e
    obtain rfl := e'
    have HS : Aside0 (eqL eq90 (lx13.drop j) (ly13.drop j) = (eq90 (rd_T90 lx13 (j : Int)) (rd_T90 ly13 (j : Int)) && eqL eq90 (lx13.drop (j + 1)) (ly13.drop (j + 1)))) := ⟨by
     rw [List.drop_eq_getElem_cons hlt, List.drop_eq_getElem_cons hlt2, eqL, rd90' lx13 j hlt, rd90' ly13 j hlt2]⟩
    generalize rd_T90 lx13 (j : Int) = p at hy0 hy1 hy2 hy3 HS
    generalize rd_T90 ly13 (j : Int) = q at hz0 hz1 hz2 hz3 HS
    obtain ⟨p0, p1, p2, p3⟩ := p
    obtain ⟨q0, q1, q2, q3⟩ := q
    dsimp only at hy0 hy1 hy2 hy3 hz0 hz1 hz2 hz3
    have E := Aside0.mk (And.intro hy0 (And.intro hy1 (And.intro hy2 hy3)))
    have F := Aside0.mk (And.intro hz0 (And.intro hz1 (And.intro hz2 hz3)))
    have hlti : (j : Int) < (lx13.length : Int) := by omega
    have hlti2 : (j : Int) < (ly13.length : Int) := by omega
    clear hy0 hy1 hy2 hy3 hz0 hz1 hz2 hz3
    go_upto_region 6 with (fail)
    refine start_ (n := 11) (S := fun w' => w'.cell? ⟨g2, 13, none⟩ = some (.slice (some ad) lx13.length nx13) ∧ w'.cell? ⟨g3, 13, none⟩ = some (.slice (some bd) ly13.length ny13) ∧ (w'.cell? (ad.add (j * 4)) = some (.int .u64 p0) ∧ w'.cell? ⟨(ad.add (j * 4)).block, (ad.add (j * 4)).off + 1, none⟩ = some (.int .i64 p1) ∧ w'.cell? ⟨(ad.add (j * 4)).block, (ad.add (j * 4)).off + 2, none⟩ = some (.int .u64 p2) ∧ w'.cell? ⟨(ad.add (j * 4)).block, (ad.add (j * 4)).off + 3, none⟩ = some (.string p3)) ∧ (w'.cell? (bd.add (j * 4)) = some (.int .u64 q0) ∧ w'.cell? ⟨(bd.add (j * 4)).block, (bd.add (j * 4)).off + 1, none⟩ = some (.int .i64 q1) ∧ w'.cell? ⟨(bd.add (j * 4)).block, (bd.add (j * 4)).off + 2, none⟩ = some (.int .u64 q2) ∧ w'.cell? ⟨(bd.add (j * 4)).block, (bd.add (j * 4)).off + 3, none⟩ = some (.string q3))) (ds := []) #[ff,ff,ff,ff,ff,ff,ff,ff,ff,ff,ff] (by kernel_rfl) rfl rfl ⟨(blk_cell (blk_drew KAr.out) 13).trans rfl, (blk_cell (blk_drew KCr.out) 13).trans rfl, E.out, F.out⟩ (fun hHeld => ?_)
    refine pure_ (i := 0) (N := some 115) (v:=?_) (a':=?_) #[tt,ff,ff,ff,ff,ff,ff,ff,ff,ff,ff] rfl rfl (by kernel_rfl) (fun _ _ _ h => h) (Or.inl ⟨by rfl, ?_⟩) ?_ ?_
    rotate_left
    ·intro w'
     go_simp
     first | done | with_reducible rfl | rfl | (simp [Instr.field, go_sem]; rfl)
    rotate_left
    ·simp only [Act.put,zA,zB,zC,i64_w,i32_w]
     rfl
    refine pure_ (i := 5) (N := some 120) (v:=?_) (a':=?_) #[tt,ff,ff,ff,ff,tt,ff,ff,ff,ff,ff] rfl rfl (by kernel_rfl) (fun _ _ _ h => h) (Or.inl ⟨by rfl, ?_⟩) ?_ ?_
    rotate_left
    ·intro w'
     go_simp
     first | done | with_reducible rfl | rfl | (simp [Instr.field, go_sem]; rfl)
    rotate_left
    ·simp only [Act.put,zA,zB,zC,i64_w,i32_w]
     rfl
    refine pure_ (i := 2) (N := some 117) (v:=?_) (a':=?_) #[tt,ff,tt,ff,ff,tt,ff,ff,ff,ff,ff] rfl rfl (by kernel_rfl) (fun _ _ _ h => h) (Or.inl ⟨by rfl, ?_⟩) ?_ ?_
    rotate_left
    ·intro w'
     go_simp
     first | done | with_reducible rfl | rfl | (simp [Instr.field, go_sem]; rfl)
    rotate_left
    ·simp only [Act.put,zA,zB,zC,i64_w,i32_w]
     rfl
    refine pure_ (i := 7) (N := some 122) (v:=?_) (a':=?_) #[tt,ff,tt,ff,ff,tt,ff,tt,ff,ff,ff] rfl rfl (by kernel_rfl) (fun _ _ _ h => h) (Or.inl ⟨by rfl, ?_⟩) ?_ ?_
    rotate_left
    ·intro w'
     go_simp
     first | done | with_reducible rfl | rfl | (simp [Instr.field, go_sem]; rfl)
    rotate_left
    ·simp only [Act.put,zA,zB,zC,i64_w,i32_w]
     rfl
    refine take_ (i := 1) (N := some 116) (v:=?_) (a':=?_) #[tt,tt,tt,ff,ff,tt,ff,tt,ff,ff,ff] rfl rfl (by kernel_rfl) (fun _ _ _ h => h) (Or.inl ⟨by rfl, ?_⟩) hHeld ?_ ?_
    rotate_left
    ·rintro w' ⟨s0, s1, ⟨s2, s3, s4, s5⟩, ⟨s6, s7, s8, s9⟩⟩
     go_simp
     first | done | with_reducible rfl | rfl | (simp [Instr.field, go_sem]; rfl)
    rotate_left
    ·simp only [Act.put,zA,zB,zC,i64_w,i32_w]
     rfl
    refine take_ (i := 6) (N := some 121) (v:=?_) (a':=?_) #[tt,tt,tt,ff,ff,tt,tt,tt,ff,ff,ff] rfl rfl (by kernel_rfl) (fun _ _ _ h => h) (Or.inl ⟨by rfl, ?_⟩) hHeld ?_ ?_
    rotate_left
    ·rintro w' ⟨s0, s1, ⟨s2, s3, s4, s5⟩, ⟨s6, s7, s8, s9⟩⟩
     go_simp
     first | done | with_reducible rfl | rfl | (simp [Instr.field, go_sem]; rfl)
    rotate_left
    ·simp only [Act.put,zA,zB,zC,i64_w,i32_w]
     rfl
    refine pure_ (i := 3) (N := some 118) (v:=?_) (a':=?_) #[tt,tt,tt,tt,ff,tt,tt,tt,ff,ff,ff] rfl rfl (by kernel_rfl) (fun _ _ _ h => h) (Or.inl ⟨by rfl, ?_⟩) ?_ ?_
    rotate_left
    ·intro w'
     go_simp
     first | done | with_reducible rfl | rfl | (simp [Instr.field, go_sem]; rfl)
    rotate_left
    ·simp only [Act.put,zA,zB,zC,i64_w,i32_w]
     rfl
    refine pure_ (i := 8) (N := some 123) (v:=?_) (a':=?_) #[tt,tt,tt,tt,ff,tt,tt,tt,tt,ff,ff] rfl rfl (by kernel_rfl) (fun _ _ _ h => h) (Or.inl ⟨by rfl, ?_⟩) ?_ ?_
    rotate_left
    ·intro w'
     go_simp
     first | done | with_reducible rfl | rfl | (simp [Instr.field, go_sem]; rfl)
    rotate_left
    ·simp only [Act.put,zA,zB,zC,i64_w,i32_w]
     rfl
    refine take_ (i := 4) (N := some 119) (v:=?_) (a':=?_) #[tt,tt,tt,tt,tt,tt,tt,tt,tt,ff,ff] rfl rfl (by kernel_rfl) (fun _ _ _ h => h) (Or.inl ⟨by rfl, ?_⟩) hHeld ?_ ?_
    rotate_left
    ·rintro w' ⟨s0, s1, ⟨s2, s3, s4, s5⟩, ⟨s6, s7, s8, s9⟩⟩
     go_simp
     first | done | with_reducible rfl | rfl | (simp [Instr.field, go_sem]; rfl)
    rotate_left
    ·simp only [Act.put,zA,zB,zC,i64_w,i32_w]
     rfl
    refine take_ (i := 9) (N := some 124) (v:=?_) (a':=?_) #[tt,tt,tt,tt,tt,tt,tt,tt,tt,tt,ff] rfl rfl (by kernel_rfl) (fun _ _ _ h => h) (Or.inl ⟨by rfl, ?_⟩) hHeld ?_ ?_
    rotate_left
    ·rintro w' ⟨s0, s1, ⟨s2, s3, s4, s5⟩, ⟨s6, s7, s8, s9⟩⟩
     go_simp
     first | done | with_reducible rfl | rfl | (simp [Instr.field, go_sem]; rfl)
    rotate_left
    ·simp only [Act.put,zA,zB,zC,i64_w,i32_w]
     rfl
    refine pure_ (i := 10) (N := some 125) (v := .bool (!eq90 ⟨p0, ⟨p1, p2, p3⟩⟩ ⟨q0, ⟨q1, q2, q3⟩⟩)) (a' := ?_) #[tt,tt,tt,tt,tt,tt,tt,tt,tt,tt,tt] rfl rfl (by kernel_rfl) (fun _ _ _ h => h) (Or.inl ⟨by rfl, ?_⟩) ?_ ?_
    ·(intro w'; go_simp; simp [eq90, Bool.not_and])
    rotate_left
    ·(simp only [Act.put,zA,zB,zC,i64_w,i32_w]; rfl)
    refine done_ (by kernel_rfl) ?_
    obtain ⟨bq, hbq⟩ : ∃ b, b = eq90 ⟨p0, ⟨p1, p2, p3⟩⟩ ⟨q0, ⟨q1, q2, q3⟩⟩ := ⟨_, rfl⟩
    rw [← hbq] at HS ⊢
    clear hbq
    have BW := Aside0.mk (below_drew1 HBw.out)
    have BV := Aside0.mk (below_drew1 HBd.out)
    have KAd := Aside0.mk (blk_drew KAr.out)
    have KCd := Aside0.mk (blk_drew KCr.out)
    cases bq
    ·go_wp2
     go_ret
     refine ⟨?_, BW.out⟩
     rw [HF.out, hB, HE.out, HS.out]
     rfl
    ·go_wp2
     go_roundw
     case rel => exact ⟨j + 1, by go_num, ⟨hlt⟩, KAd, KCd, ⟨by rw [HE.out, HS.out]; rfl⟩, BV, BW⟩
     case measure => simp [intOf]; omega
   ·obtain rfl : j = lx13.length := by have := hj.out; omega
    go_wp2
    go_ret
    refine ⟨?_, HBw.out⟩
    rw [HF.out, hB, HE.out, List.drop_length, HN.out, List.drop_length]
    rfl
 ·go_wp2
  go_ret
  refine ⟨?_, BE.out⟩
  rw [HF.out, hB]
  rfl
end Go.Proofs.Ytondgoabnmgcaaa.B
end
section
/- Plain: the two Same's answer alike (printed by samelaw.py). -/
namespace Go.Proofs.Ytondgoabnmgcaaa.B
open Go.RowKit Go.Proofs.YtondgoabnmgcaaaW.PrintWords Go.Proofs.YtondgoabnmgcaaaW.PrintLast Go.Proofs.YtondgoabnmgcaaaW.PrintMore
theorem eq90_is (p q : S53) : eq90 (to90 p) (to90 q) = eqP p q := rfl
theorem eqL_map : ∀ l m : List S53, eqL eq90 (l.map to90) (m.map to90) = eqL eqP l m
  | [], [] => rfl
  | [], _ :: _ => rfl
  | _ :: _, [] => rfl
  | p :: l, q :: m => by rw [List.map_cons, List.map_cons, eqL, eqL, eq90_is, eqL_map l m]
theorem same_both (a0 a1 a2 a3 a4 a6 a7 a8 a9 a10 a11 a12 : Int) (a15 : Nat) (c0 c1 c2 c3 c4 c6 c7 c8 c9 c10 c11 c12 : Int) (c15 : Nat) (lx5 ly5 : List S70) (lx13 ly13 : List S53) (lx14 ly14 : List S77) :
    (!(((((((((((((((a0 != c0) || (a1 != c1)) || (a2 != c2)) || (a3 != c3)) || (a4 != c4)) || (!eqL eqU lx5 ly5)) || (!(a6 == c6 && (a7 == c7)))) || (a8 != c8)) || (a9 != c9)) || (!(a10 == c10 && (a11 == c11)))) || (a12 != c12)) || (((lx13.map to90).length : Int) != ((ly13.map to90).length : Int))) || (!eqL eqX lx14 ly14)) || ((a15 : Int) != (c15 : Int)))) && eqL eq90 (lx13.map to90) (ly13.map to90)) = ((((((((((((((a0 == c0) && (a1 == c1)) && (a2 == c2)) && (a3 == c3)) && (a4 == c4)) && eqL eqU lx5 ly5) && (a6 == c6 && (a7 == c7))) && (a8 == c8)) && (a9 == c9)) && (a10 == c10 && (a11 == c11))) && (a12 == c12)) && eqL eqP lx13 ly13) && eqL eqX lx14 ly14) && ((a15 : Int) == (c15 : Int))) := by
  rw [eqL_map, List.length_map, List.length_map]
  simp only [bne, Bool.not_or, Bool.not_not]
  generalize (a0 == c0) = e0
  generalize (a1 == c1) = e1
  generalize (a2 == c2) = e2
  generalize (a3 == c3) = e3
  generalize (a4 == c4) = e4
  generalize eqL eqU lx5 ly5 = e5
  generalize (a6 == c6 && (a7 == c7)) = e6
  generalize (a8 == c8) = e7
  generalize (a9 == c9) = e8
  generalize (a10 == c10 && (a11 == c11)) = e9
  generalize (a12 == c12) = e10
  generalize eqL eqX lx14 ly14 = e12
  generalize ((a15 : Int) == (c15 : Int)) = e13
  by_cases h : lx13.length = ly13.length
  · rw [show ((lx13.length : Int) == (ly13.length : Int)) = true by simp [h]]
    generalize eqL eqP lx13 ly13 = e11
    cases e0 <;> cases e1 <;> cases e2 <;> cases e3 <;> cases e4 <;> cases e5 <;> (try rfl) <;> cases e6 <;> cases e7 <;> cases e8 <;> cases e9 <;> (try rfl) <;> cases e10 <;> cases e11 <;> cases e12 <;> cases e13 <;> rfl
  · rw [eqL_len eqP lx13 ly13 h]
    simp
theorem same_selfL (a0 a1 a2 a3 a4 a6 a7 a8 a9 a10 a11 a12 : Int) (a15 : Nat) (lx5 : List S70) (lx13 : List S53) (lx14 : List S77) : ((((((((((((((a0 == a0) && (a1 == a1)) && (a2 == a2)) && (a3 == a3)) && (a4 == a4)) && eqL eqU lx5 lx5) && (a6 == a6 && (a7 == a7))) && (a8 == a8)) && (a9 == a9)) && (a10 == a10 && (a11 == a11))) && (a12 == a12)) && eqL eqP lx13 lx13) && eqL eqX lx14 lx14) && ((a15 : Int) == (a15 : Int))) = true := by
  rw [eqL_refl eqU eqU_refl, eqL_refl eqP eqP_refl, eqL_refl eqX eqX_refl]
  simp
end Go.Proofs.Ytondgoabnmgcaaa.B
end
section
/- By hand: the walk of LetterEncodes (printed by encw.py). -/
namespace Go.Proofs.Ytondgoabnmgcaaa.B
open Go.RowKit Go.Proofs.YtondgoabnmgcaaaW.PrintWords Go.Proofs.YtondgoabnmgcaaaW.PrintLast Go.Proofs.YtondgoabnmgcaaaW.PrintMore
open List renaming setIfInBounds_toArray → zA, set_cons_zero → zB, set_cons_succ → zC
open Bool renaming true → tt, false → ff
open Go.Proofs.Ytondgoabnmgcaaa.Pure (heavyB heavy_is)
set_option linter.unusedSimpArgs false
set_option linter.unusedVariables false
def encw5_T : Bool × List (List Nat × List Nat) := (true, [([], []), ([], []), ([0, 1], [0, 1]), ([2], [2]), ([3], [3]), ([3], [3]), ([4, 5, 3], [3, 4, 5]), ([3, 6], [3, 6]), ([7, 3], [7]), ([8], [8]), ([9, 8, 8], [8, 9]), ([8], [8]), ([11, 10, 8], [8, 11]), ([12, 12, 8], [8, 12]), ([10, 13, 8], [8, 10, 13]), ([8, 14], [8, 14]), ([15, 13], [15]), ([16], [16]), ([16], [16]), ([17, 18, 16, 16], [16, 17, 18]), ([16], [16]), ([20, 19, 16], [16, 20]), ([16], [16]), ([22, 21, 16], [16, 22]), ([21, 23, 23, 16], [16, 21, 23]), ([19, 24, 16], [16, 19, 24]), ([16, 25], [16, 25]), ([26, 24], [26]), ([27], [27]), ([27], [27]), ([28, 29, 27, 27], [27, 28, 29]), ([27, 30], [27, 30]), ([31, 30, 0, 1, 2, 3, 4, 5, 6, 7, 8, 9, 10, 11, 12, 13, 14, 15, 16, 17, 18, 19, 20, 21, 22, 23, 24, 25, 26, 27, 28, 29, 30, 31], [31])])
def encw5_B : List Nat := [0, 0, 3, 7, 15, 15, 63, 127, 255, 511, 1023, 511, 4095, 8191, 16383, 32767, 65535, 131071, 131071, 524287, 131071, 2097151, 131071, 8388607, 16777215, 33554431, 67108863, 134217727, 268435455, 268435455, 1073741823, 2147483647, 4294967295]
theorem encw5_tab : rtab .any (opsOf Try.f7 5) = encw5_T := by kernel_rfl
theorem encw5_bits : waitsOk encw5_T.2 encw5_B = true := by kernel_rfl
theorem enc_yields32 {o : Oper} {a : Act} {w : World} (x : Operand) (ho : o.op = .load 32 x)
  (g : Nat) (hx : a.eval x = .pointer (some ⟨g, 0, none⟩)) (t : TypeId) (cs : Array Value) (fr : Nat × Nat) (hg : w.heap[g]? = some (.cells cs t fr))
  (hi : (Try.prog.info? 32).map (·.size) = some cs.size) :
  (execOp a.eval o).run Try.prog w = .ok (.value (.agg cs)) w := by
 unfold execOp
 simp only [ho, hx, Instr.loadAt, Instr.sureAddr, Sem.run_bind, Sem.run_pure, Result.andThen_ok, run_loadVar_row w g t 32 cs fr _ hg Try.underlying32 rfl hi]
theorem enc_loadG {ops : Array Oper} {rest : List Oper} {o : Oper} {a : Act} {w : World} {Q : Exit → Act → World → Prop} (hw : Region.wanted o (yielded ops a.tmps) = true) (x : Operand) (ho : o.op = .load 32 x)
  (g : Nat) (hx : a.eval x = .pointer (some ⟨g, 0, none⟩)) (cs : Array Value) (hg : w.heap[g]? = some (.cells cs 32 (0, 0))) (hi : (Try.prog.info? 32).map (·.size) = some cs.size)
  (h : wpList Try.prog ops Q rest (a.put o.dst (.agg cs)) w) : wpList Try.prog ops Q (o :: rest) a w :=
 wpList_step fun K hK => by rw [if_pos hw]; exact wp_load_row 32 x ho g hx 32 cs (0, 0) _ hg Try.underlying32 rfl hi (hK _ _ h)
theorem enc_callG {ops : Array Oper} {Q : Exit → Act → World → Prop} {rest : List Oper} {oi : Oper} {a : Act} {w : World} (N : Option Tmp) (hd : oi.dst = N) (hw : Region.wanted oi (yielded ops a.tmps) = true) {f : FuncId} {fn : Func} {vs : Array Operand} {ts : Array TypeId} (hf : Try.prog.funcs[f]? = some fn) (hname : (fn.name == "runtime.NumGoroutine") = false) (hb : fn.body.isSome = true) (args : Array Value)
  (hop : oi.op = .call { callee := .value (.func f), args := vs, argTypes := ts }) (hargs : vs.map a.eval = args)
  (h : Calls Try.prog f args w fun e w' => ∃ v, e = .returned v ∧ wpList Try.prog ops Q rest (a.put N v) w') : wpList Try.prog ops Q (oi :: rest) a w := by
 refine wpList_step fun K hK => ?_
 rw [if_pos hw]
 have he := enters_ hf hname hb args w
 have hrun : (execOp a.eval oi).run Try.prog w = .ok (.enter f args) w := by
  unfold execOp
  simp [hop, resolve, Deferred.ofValue, invoke, Act.eval, hargs, he]
 unfold Oper.wp
 rw [hrun, Oper.upon_enter]
 refine h.mono fun e w'' hh => ?_
 obtain ⟨v, rfl, hk⟩ := hh
 subst hd
 exact hK _ _ hk
/-- both say one thing of two letters -/
theorem same_pair (a0 a1 a2 a3 a4 : Int) (l5 : List S70) (a6 a7 a8 a9 a10 a11 a12 : Int) (l13 : List S53) (l14 : List S77) (a15 : Nat) (b0 b1 b2 b3 b4 : Int) (m5 : List S70) (b6 b7 b8 b9 b10 b11 b12 : Int) (m13 : List S53) (m14 : List S77) (b15 : Nat) :
  ∃ sv : Bool, (∀ (w : World) (A5 : Option Addr) (c5 : Nat) (A13 : Option Addr) (c13 : Nat) (A14 : Option Addr) (c14 : Nat) (D5 : Option Addr) (e5 : Nat) (D13 : Option Addr) (e13 : Nat) (D14 : Option Addr) (e14 : Nat) (hr5 : Kd.C k70 w A5 l5.length l5) (hc5 : l5.length ≤ c5) (hr13 : Kd.C k53 w A13 l13.length l13) (hc13 : l13.length ≤ c13) (hr14 : Kd.C k77 w A14 l14.length l14) (hc14 : l14.length ≤ c14) (ms5 : Kd.C k70 w D5 m5.length m5) (me5 : m5.length ≤ e5) (ms13 : Kd.C k53 w D13 m13.length m13) (me13 : m13.length ≤ e13) (ms14 : Kd.C k77 w D14 m14.length m14) (me14 : m14.length ≤ e14),
    Calls Try.prog 21 #[.agg #[.int .i64 a0, .int .i64 a1, .int .i64 a2, .int .u64 a3, .int .i64 a4, .slice A5 l5.length c5, .int .u64 a6, .int .u64 a7, .int .u64 a8, .int .u64 a9, .int .u64 a10, .int .u64 a11, .int .u64 a12, .slice A13 l13.length c13, .slice A14 l14.length c14, .float .f64 a15], .agg #[.int .i64 b0, .int .i64 b1, .int .i64 b2, .int .u64 b3, .int .i64 b4, .slice D5 m5.length e5, .int .u64 b6, .int .u64 b7, .int .u64 b8, .int .u64 b9, .int .u64 b10, .int .u64 b11, .int .u64 b12, .slice D13 m13.length e13, .slice D14 m14.length e14, .float .f64 b15]] w fun e w' => e = .returned (.bool sv) ∧ Below w.heap.size w w') ∧
   (∀ (w : World) (A5 : Option Addr) (c5 : Nat) (A13 : Option Addr) (c13 : Nat) (A14 : Option Addr) (c14 : Nat) (D5 : Option Addr) (e5 : Nat) (D13 : Option Addr) (e13 : Nat) (D14 : Option Addr) (e14 : Nat) (r13 s13 : List S90) (hr : r13 = l13.map to90) (hs : s13 = m13.map to90) (hr5 : Kd.C k70 w A5 l5.length l5) (hc5 : l5.length ≤ c5) (hr13 : Kd.C k90 w A13 r13.length r13) (hc13 : r13.length ≤ c13) (hr14 : Kd.C k77 w A14 l14.length l14) (hc14 : l14.length ≤ c14) (ms5 : Kd.C k70 w D5 m5.length m5) (me5 : m5.length ≤ e5) (ms13 : Kd.C k90 w D13 s13.length s13) (me13 : s13.length ≤ e13) (ms14 : Kd.C k77 w D14 m14.length m14) (me14 : m14.length ≤ e14),
    Calls Try.prog 12 #[.agg #[.int .i64 a0, .int .i64 a1, .int .i64 a2, .int .u64 a3, .int .i64 a4, .slice A5 l5.length c5, .int .u64 a6, .int .u64 a7, .int .u64 a8, .int .u64 a9, .int .u64 a10, .int .u64 a11, .int .u64 a12, .slice A13 r13.length c13, .slice A14 l14.length c14, .float .f64 a15], .agg #[.int .i64 b0, .int .i64 b1, .int .i64 b2, .int .u64 b3, .int .i64 b4, .slice D5 m5.length e5, .int .u64 b6, .int .u64 b7, .int .u64 b8, .int .u64 b9, .int .u64 b10, .int .u64 b11, .int .u64 b12, .slice D13 s13.length e13, .slice D14 m14.length e14, .float .f64 b15]] w fun e w' => e = .returned (.bool sv) ∧ Below w.heap.size w w') := by
 refine ⟨_, fun w A5 c5 A13 c13 A14 c14 D5 e5 D13 e13 D14 e14 hr5 hc5 hr13 hc13 hr14 hc14 ms5 me5 ms13 me13 ms14 me14 => lsame_at a0 a1 a2 a3 a4 A5 c5 l5 a6 a7 a8 a9 a10 a11 a12 A13 c13 l13 A14 c14 l14 a15 b0 b1 b2 b3 b4 D5 e5 m5 b6 b7 b8 b9 b10 b11 b12 D13 e13 m13 D14 e14 m14 b15 w hr5 hc5 hr13 hc13 hr14 hc14 ms5 me5 ms13 me13 ms14 me14, ?_⟩
 intro w A5 c5 A13 c13 A14 c14 D5 e5 D13 e13 D14 e14 r13 s13 hr hs hr5 hc5 hr13 hc13 hr14 hc14 ms5 me5 ms13 me13 ms14 me14
 have h := rsame_at a0 a1 a2 a3 a4 A5 c5 l5 a6 a7 a8 a9 a10 a11 a12 A13 c13 r13 A14 c14 l14 a15 b0 b1 b2 b3 b4 D5 e5 m5 b6 b7 b8 b9 b10 b11 b12 D13 e13 s13 D14 e14 m14 b15 w hr5 hc5 hr13 hc13 hr14 hc14 ms5 me5 ms13 me13 ms14 me14
 refine h.mono ?_
 rintro e w' ⟨rfl, hb⟩
 refine ⟨?_, hb⟩
 subst hr
 subst hs
 rw [same_both]
theorem same_one (a0 a1 a2 a3 a4 : Int) (A5 : Option Addr) (c5 : Nat) (l5 : List S70) (a6 a7 a8 a9 a10 a11 a12 : Int) (A13 : Option Addr) (c13 : Nat) (l13 : List S53) (A14 : Option Addr) (c14 : Nat) (l14 : List S77) (a15 : Nat) (w : World) (hr5 : Kd.C k70 w A5 l5.length l5) (hc5 : l5.length ≤ c5) (hr13 : Kd.C k53 w A13 l13.length l13) (hc13 : l13.length ≤ c13) (hr14 : Kd.C k77 w A14 l14.length l14) (hc14 : l14.length ≤ c14) :
  Calls Try.prog 21 #[.agg #[.int .i64 a0, .int .i64 a1, .int .i64 a2, .int .u64 a3, .int .i64 a4, .slice A5 l5.length c5, .int .u64 a6, .int .u64 a7, .int .u64 a8, .int .u64 a9, .int .u64 a10, .int .u64 a11, .int .u64 a12, .slice A13 l13.length c13, .slice A14 l14.length c14, .float .f64 a15], .agg #[.int .i64 a0, .int .i64 a1, .int .i64 a2, .int .u64 a3, .int .i64 a4, .slice A5 l5.length c5, .int .u64 a6, .int .u64 a7, .int .u64 a8, .int .u64 a9, .int .u64 a10, .int .u64 a11, .int .u64 a12, .slice A13 l13.length c13, .slice A14 l14.length c14, .float .f64 a15]] w fun e w' => e = .returned (.bool true) ∧ Below w.heap.size w w' := by
 refine (lsame_at a0 a1 a2 a3 a4 A5 c5 l5 a6 a7 a8 a9 a10 a11 a12 A13 c13 l13 A14 c14 l14 a15 a0 a1 a2 a3 a4 A5 c5 l5 a6 a7 a8 a9 a10 a11 a12 A13 c13 l13 A14 c14 l14 a15 w hr5 hc5 hr13 hc13 hr14 hc14 hr5 hc5 hr13 hc13 hr14 hc14).mono ?_
 rintro e w' ⟨rfl, hb⟩
 refine ⟨?_, hb⟩
 rw [same_selfL]
set_option maxRecDepth 100000 in
set_option maxHeartbeats 16000000 in
theorem enc_heavy1 (a0 a1 a2 a3 a4 : Int) (A5 : Option Addr) (c5 : Nat) (l5 : List S70) (a6 a7 a8 a9 a10 a11 a12 : Int) (A13 : Option Addr) (c13 : Nat) (l13 : List S53) (A14 : Option Addr) (c14 : Nat) (l14 : List S77) (a15 : Nat) (b0 b1 b2 b3 b4 : Int) (D5 : Option Addr) (e5 : Nat) (m5 : List S70) (b6 b7 b8 b9 b10 b11 b12 : Int) (D13 : Option Addr) (e13 : Nat) (m13 : List S53) (D14 : Option Addr) (e14 : Nat) (m14 : List S77) (b15 : Nat) (w : World) (hr5 : Kd.C k70 w A5 l5.length l5) (hc5 : l5.length ≤ c5) (hr13 : Kd.C k53 w A13 l13.length l13) (hc13 : l13.length ≤ c13) (hr14 : Kd.C k77 w A14 l14.length l14) (hc14 : l14.length ≤ c14) (hl : l13.length ≤ maxLen) (ms5 : Kd.C k70 w D5 m5.length m5) (me5 : m5.length ≤ e5) (ms13 : Kd.C k53 w D13 m13.length m13) (me13 : m13.length ≤ e13) (ms14 : Kd.C k77 w D14 m14.length m14) (me14 : m14.length ≤ e14) (hm : m13.length ≤ maxLen) (hh : heavyB l5 l13 l14 = true) :
  Calls Try.prog 7 #[.agg #[.int .i64 a0, .int .i64 a1, .int .i64 a2, .int .u64 a3, .int .i64 a4, .slice A5 l5.length c5, .int .u64 a6, .int .u64 a7, .int .u64 a8, .int .u64 a9, .int .u64 a10, .int .u64 a11, .int .u64 a12, .slice A13 l13.length c13, .slice A14 l14.length c14, .float .f64 a15], .agg #[.int .i64 b0, .int .i64 b1, .int .i64 b2, .int .u64 b3, .int .i64 b4, .slice D5 m5.length e5, .int .u64 b6, .int .u64 b7, .int .u64 b8, .int .u64 b9, .int .u64 b10, .int .u64 b11, .int .u64 b12, .slice D13 m13.length e13, .slice D14 m14.length e14, .float .f64 b15]] w fun e w' => e = .returned (.bool true) ∧ Below w.heap.size w w' := by
 have H5 := Aside0.mk hr5
 have HC5 := Aside0.mk hc5
 have M5 := Aside0.mk ms5
 have ME5 := Aside0.mk me5
 have H13 := Aside0.mk hr13
 have HC13 := Aside0.mk hc13
 have M13 := Aside0.mk ms13
 have ME13 := Aside0.mk me13
 have H14 := Aside0.mk hr14
 have HC14 := Aside0.mk hc14
 have M14 := Aside0.mk ms14
 have ME14 := Aside0.mk me14
 have si32 := si32
 have HHL := Aside0.mk (heavy_is a0 a1 a2 a3 a4 l5 a6 a7 a8 a9 a10 a11 a12 l13 l14 a15 hl (l13.length + 2) (by omega))
 have HHM := Aside0.mk (heavy_is b0 b1 b2 b3 b4 m5 b6 b7 b8 b9 b10 b11 b12 m13 m14 b15 hm (m13.length + 2) (by omega))
 rw [hh] at HHL
 clear hr5 hr13 hr14 hc5 hc13 hc14 ms5 ms13 ms14 me5 me13 me14 hl hm hh
 go_enter Try.func7, Try.ntmps7
 go_wp2_with (first
  | ((with_reducible refine gate_dst (N := 2) rfl ?_); refine box_event ?hg (N := 2) ?hd (cs := #[.int .i64 a0, .int .i64 a1, .int .i64 a2, .int .u64 a3, .int .i64 a4, .slice A5 l5.length c5, .int .u64 a6, .int .u64 a7, .int .u64 a8, .int .u64 a9, .int .u64 a10, .int .u64 a11, .int .u64 a12, .slice A13 l13.length c13, .slice A14 l14.length c14, .float .f64 a15]) (t := 32) ?hr ?_; (case hd => rfl); (case hg => rfl); (case hr => first | (go_simp; done) | (go_simp; rfl)); intro g1 hg_ w1 hb_ hB_; have K1 := Aside0.mk hb_; have B := Aside0.mk hB_; clear hg_ hb_ hB_)
  | ((with_reducible refine gate_dst (N := 3) rfl ?_); refine box_event ?hg (N := 3) ?hd (cs := #[.int .i64 b0, .int .i64 b1, .int .i64 b2, .int .u64 b3, .int .i64 b4, .slice D5 m5.length e5, .int .u64 b6, .int .u64 b7, .int .u64 b8, .int .u64 b9, .int .u64 b10, .int .u64 b11, .int .u64 b12, .slice D13 m13.length e13, .slice D14 m14.length e14, .float .f64 b15]) (t := 32) ?hr ?_; (case hd => rfl); (case hg => rfl); (case hr => first | (go_simp; done) | (go_simp; rfl)); intro g2 hg_ w2 hb_ hB_; have K2 := Aside0.mk hb_; replace K1 := Aside0.mk (blk_below K1.out hB_); replace B := Aside0.mk (below_step B.out hB_); clear hg_ hb_ hB_)
  | (refine wpList_load_row rfl 32 (.tmp 2) rfl g1 rfl 32 #[.int .i64 a0, .int .i64 a1, .int .i64 a2, .int .u64 a3, .int .i64 a4, .slice A5 l5.length c5, .int .u64 a6, .int .u64 a7, .int .u64 a8, .int .u64 a9, .int .u64 a10, .int .u64 a11, .int .u64 a12, .slice A13 l13.length c13, .slice A14 l14.length c14, .float .f64 a15] (0, 0) _ K1.out Try.underlying32 rfl si32 ?_)
  | (refine enc_loadG rfl (.tmp 3) rfl g2 rfl #[.int .i64 b0, .int .i64 b1, .int .i64 b2, .int .u64 b3, .int .i64 b4, .slice D5 m5.length e5, .int .u64 b6, .int .u64 b7, .int .u64 b8, .int .u64 b9, .int .u64 b10, .int .u64 b11, .int .u64 b12, .slice D13 m13.length e13, .slice D14 m14.length e14, .float .f64 b15] K2.out si32 ?_)
  | (refine enc_callG (some 10) rfl rfl Try.func15 (by kernel_rfl) rfl #[.agg #[.int .i64 a0, .int .i64 a1, .int .i64 a2, .int .u64 a3, .int .i64 a4, .slice A5 l5.length c5, .int .u64 a6, .int .u64 a7, .int .u64 a8, .int .u64 a9, .int .u64 a10, .int .u64 a11, .int .u64 a12, .slice A13 l13.length c13, .slice A14 l14.length c14, .float .f64 a15]] rfl (by (try simp only [List.map_toArray, List.map_cons, List.map_nil]); first | done | rfl) ?_; refine (conventiclelaw15_heavy.calls (l13.length + 2) a0 a1 a2 a3 a4 A5 c5 l5 a6 a7 a8 a9 a10 a11 a12 A13 c13 l13 A14 c14 l14 a15 _ _ (Kd.C_below H5.out B.out) HC5.out (Kd.C_below H13.out B.out) HC13.out (Kd.C_below H14.out B.out) HC14.out HHL.out).mono ?_; rintro e w3 ⟨rfl, hb⟩; replace K1 := Aside0.mk (blk_below K1.out hb); replace K2 := Aside0.mk (blk_below K2.out hb); replace B := Aside0.mk (below_step B.out hb); clear hb; refine ⟨_, rfl, ?_⟩)
  | (refine enc_callG (some 13) rfl rfl Try.func15 (by kernel_rfl) rfl #[.agg #[.int .i64 b0, .int .i64 b1, .int .i64 b2, .int .u64 b3, .int .i64 b4, .slice D5 m5.length e5, .int .u64 b6, .int .u64 b7, .int .u64 b8, .int .u64 b9, .int .u64 b10, .int .u64 b11, .int .u64 b12, .slice D13 m13.length e13, .slice D14 m14.length e14, .float .f64 b15]] rfl (by (try simp only [List.map_toArray, List.map_cons, List.map_nil]); first | done | rfl) ?_; refine (conventiclelaw15_heavy.calls (m13.length + 2) b0 b1 b2 b3 b4 D5 e5 m5 b6 b7 b8 b9 b10 b11 b12 D13 e13 m13 D14 e14 m14 b15 _ _ (Kd.C_below M5.out B.out) ME5.out (Kd.C_below M13.out B.out) ME13.out (Kd.C_below M14.out B.out) ME14.out HHM.out).mono ?_; rintro e w4 ⟨rfl, hb⟩; replace K1 := Aside0.mk (blk_below K1.out hb); replace K2 := Aside0.mk (blk_below K2.out hb); replace B := Aside0.mk (below_step B.out hb); clear hb; refine ⟨_, rfl, ?_⟩)
  | (go_at_call 8; refine (conventiclelaw15_shown.calls true _ rfl).mono ?_; rintro e w5 ⟨rfl, hb⟩; replace K1 := Aside0.mk (blk_below K1.out hb); replace K2 := Aside0.mk (blk_below K2.out hb); replace B := Aside0.mk (below_step B.out hb); clear hb))
 go_ret
 exact ⟨rfl, B.out⟩
set_option maxRecDepth 100000 in
set_option maxHeartbeats 16000000 in
theorem enc_heavy2 (a0 a1 a2 a3 a4 : Int) (A5 : Option Addr) (c5 : Nat) (l5 : List S70) (a6 a7 a8 a9 a10 a11 a12 : Int) (A13 : Option Addr) (c13 : Nat) (l13 : List S53) (A14 : Option Addr) (c14 : Nat) (l14 : List S77) (a15 : Nat) (b0 b1 b2 b3 b4 : Int) (D5 : Option Addr) (e5 : Nat) (m5 : List S70) (b6 b7 b8 b9 b10 b11 b12 : Int) (D13 : Option Addr) (e13 : Nat) (m13 : List S53) (D14 : Option Addr) (e14 : Nat) (m14 : List S77) (b15 : Nat) (w : World) (hr5 : Kd.C k70 w A5 l5.length l5) (hc5 : l5.length ≤ c5) (hr13 : Kd.C k53 w A13 l13.length l13) (hc13 : l13.length ≤ c13) (hr14 : Kd.C k77 w A14 l14.length l14) (hc14 : l14.length ≤ c14) (hl : l13.length ≤ maxLen) (ms5 : Kd.C k70 w D5 m5.length m5) (me5 : m5.length ≤ e5) (ms13 : Kd.C k53 w D13 m13.length m13) (me13 : m13.length ≤ e13) (ms14 : Kd.C k77 w D14 m14.length m14) (me14 : m14.length ≤ e14) (hm : m13.length ≤ maxLen) (hh : heavyB l5 l13 l14 = false) (hh2 : heavyB m5 m13 m14 = true) :
  Calls Try.prog 7 #[.agg #[.int .i64 a0, .int .i64 a1, .int .i64 a2, .int .u64 a3, .int .i64 a4, .slice A5 l5.length c5, .int .u64 a6, .int .u64 a7, .int .u64 a8, .int .u64 a9, .int .u64 a10, .int .u64 a11, .int .u64 a12, .slice A13 l13.length c13, .slice A14 l14.length c14, .float .f64 a15], .agg #[.int .i64 b0, .int .i64 b1, .int .i64 b2, .int .u64 b3, .int .i64 b4, .slice D5 m5.length e5, .int .u64 b6, .int .u64 b7, .int .u64 b8, .int .u64 b9, .int .u64 b10, .int .u64 b11, .int .u64 b12, .slice D13 m13.length e13, .slice D14 m14.length e14, .float .f64 b15]] w fun e w' => e = .returned (.bool true) ∧ Below w.heap.size w w' := by
 have H5 := Aside0.mk hr5
 have HC5 := Aside0.mk hc5
 have M5 := Aside0.mk ms5
 have ME5 := Aside0.mk me5
 have H13 := Aside0.mk hr13
 have HC13 := Aside0.mk hc13
 have M13 := Aside0.mk ms13
 have ME13 := Aside0.mk me13
 have H14 := Aside0.mk hr14
 have HC14 := Aside0.mk hc14
 have M14 := Aside0.mk ms14
 have ME14 := Aside0.mk me14
 have si32 := si32
 have HHL := Aside0.mk (heavy_is a0 a1 a2 a3 a4 l5 a6 a7 a8 a9 a10 a11 a12 l13 l14 a15 hl (l13.length + 2) (by omega))
 have HHM := Aside0.mk (heavy_is b0 b1 b2 b3 b4 m5 b6 b7 b8 b9 b10 b11 b12 m13 m14 b15 hm (m13.length + 2) (by omega))
 rw [hh] at HHL
 rw [hh2] at HHM
 clear hr5 hr13 hr14 hc5 hc13 hc14 ms5 ms13 ms14 me5 me13 me14 hl hm hh hh2
 go_enter Try.func7, Try.ntmps7
 go_wp2_with (first
  | ((with_reducible refine gate_dst (N := 2) rfl ?_); refine box_event ?hg (N := 2) ?hd (cs := #[.int .i64 a0, .int .i64 a1, .int .i64 a2, .int .u64 a3, .int .i64 a4, .slice A5 l5.length c5, .int .u64 a6, .int .u64 a7, .int .u64 a8, .int .u64 a9, .int .u64 a10, .int .u64 a11, .int .u64 a12, .slice A13 l13.length c13, .slice A14 l14.length c14, .float .f64 a15]) (t := 32) ?hr ?_; (case hd => rfl); (case hg => rfl); (case hr => first | (go_simp; done) | (go_simp; rfl)); intro g1 hg_ w1 hb_ hB_; have K1 := Aside0.mk hb_; have B := Aside0.mk hB_; clear hg_ hb_ hB_)
  | ((with_reducible refine gate_dst (N := 3) rfl ?_); refine box_event ?hg (N := 3) ?hd (cs := #[.int .i64 b0, .int .i64 b1, .int .i64 b2, .int .u64 b3, .int .i64 b4, .slice D5 m5.length e5, .int .u64 b6, .int .u64 b7, .int .u64 b8, .int .u64 b9, .int .u64 b10, .int .u64 b11, .int .u64 b12, .slice D13 m13.length e13, .slice D14 m14.length e14, .float .f64 b15]) (t := 32) ?hr ?_; (case hd => rfl); (case hg => rfl); (case hr => first | (go_simp; done) | (go_simp; rfl)); intro g2 hg_ w2 hb_ hB_; have K2 := Aside0.mk hb_; replace K1 := Aside0.mk (blk_below K1.out hB_); replace B := Aside0.mk (below_step B.out hB_); clear hg_ hb_ hB_)
  | (refine wpList_load_row rfl 32 (.tmp 2) rfl g1 rfl 32 #[.int .i64 a0, .int .i64 a1, .int .i64 a2, .int .u64 a3, .int .i64 a4, .slice A5 l5.length c5, .int .u64 a6, .int .u64 a7, .int .u64 a8, .int .u64 a9, .int .u64 a10, .int .u64 a11, .int .u64 a12, .slice A13 l13.length c13, .slice A14 l14.length c14, .float .f64 a15] (0, 0) _ K1.out Try.underlying32 rfl si32 ?_)
  | (refine enc_loadG rfl (.tmp 3) rfl g2 rfl #[.int .i64 b0, .int .i64 b1, .int .i64 b2, .int .u64 b3, .int .i64 b4, .slice D5 m5.length e5, .int .u64 b6, .int .u64 b7, .int .u64 b8, .int .u64 b9, .int .u64 b10, .int .u64 b11, .int .u64 b12, .slice D13 m13.length e13, .slice D14 m14.length e14, .float .f64 b15] K2.out si32 ?_)
  | (refine enc_callG (some 10) rfl rfl Try.func15 (by kernel_rfl) rfl #[.agg #[.int .i64 a0, .int .i64 a1, .int .i64 a2, .int .u64 a3, .int .i64 a4, .slice A5 l5.length c5, .int .u64 a6, .int .u64 a7, .int .u64 a8, .int .u64 a9, .int .u64 a10, .int .u64 a11, .int .u64 a12, .slice A13 l13.length c13, .slice A14 l14.length c14, .float .f64 a15]] rfl (by (try simp only [List.map_toArray, List.map_cons, List.map_nil]); first | done | rfl) ?_; refine (conventiclelaw15_heavy.calls (l13.length + 2) a0 a1 a2 a3 a4 A5 c5 l5 a6 a7 a8 a9 a10 a11 a12 A13 c13 l13 A14 c14 l14 a15 _ _ (Kd.C_below H5.out B.out) HC5.out (Kd.C_below H13.out B.out) HC13.out (Kd.C_below H14.out B.out) HC14.out HHL.out).mono ?_; rintro e w3 ⟨rfl, hb⟩; replace K1 := Aside0.mk (blk_below K1.out hb); replace K2 := Aside0.mk (blk_below K2.out hb); replace B := Aside0.mk (below_step B.out hb); clear hb; refine ⟨_, rfl, ?_⟩)
  | (refine enc_callG (some 13) rfl rfl Try.func15 (by kernel_rfl) rfl #[.agg #[.int .i64 b0, .int .i64 b1, .int .i64 b2, .int .u64 b3, .int .i64 b4, .slice D5 m5.length e5, .int .u64 b6, .int .u64 b7, .int .u64 b8, .int .u64 b9, .int .u64 b10, .int .u64 b11, .int .u64 b12, .slice D13 m13.length e13, .slice D14 m14.length e14, .float .f64 b15]] rfl (by (try simp only [List.map_toArray, List.map_cons, List.map_nil]); first | done | rfl) ?_; refine (conventiclelaw15_heavy.calls (m13.length + 2) b0 b1 b2 b3 b4 D5 e5 m5 b6 b7 b8 b9 b10 b11 b12 D13 e13 m13 D14 e14 m14 b15 _ _ (Kd.C_below M5.out B.out) ME5.out (Kd.C_below M13.out B.out) ME13.out (Kd.C_below M14.out B.out) ME14.out HHM.out).mono ?_; rintro e w4 ⟨rfl, hb⟩; replace K1 := Aside0.mk (blk_below K1.out hb); replace K2 := Aside0.mk (blk_below K2.out hb); replace B := Aside0.mk (below_step B.out hb); clear hb; refine ⟨_, rfl, ?_⟩)
  | (go_at_call 8; refine (conventiclelaw15_shown.calls true _ rfl).mono ?_; rintro e w5 ⟨rfl, hb⟩; replace K1 := Aside0.mk (blk_below K1.out hb); replace K2 := Aside0.mk (blk_below K2.out hb); replace B := Aside0.mk (below_step B.out hb); clear hb))
 go_ret
 exact ⟨rfl, B.out⟩
set_option maxRecDepth 100000 in
set_option maxHeartbeats 16000000 in
theorem enc_walk (a0 a1 a2 a3 a4 : Int) (A5 : Option Addr) (c5 : Nat) (l5 : List S70) (a6 a7 a8 a9 a10 a11 a12 : Int) (A13 : Option Addr) (c13 : Nat) (l13 : List S53) (A14 : Option Addr) (c14 : Nat) (l14 : List S77) (a15 : Nat) (b0 b1 b2 b3 b4 : Int) (D5 : Option Addr) (e5 : Nat) (m5 : List S70) (b6 b7 b8 b9 b10 b11 b12 : Int) (D13 : Option Addr) (e13 : Nat) (m13 : List S53) (D14 : Option Addr) (e14 : Nat) (m14 : List S77) (b15 : Nat) (w : World) (hr5 : Kd.C k70 w A5 l5.length l5) (hc5 : l5.length ≤ c5) (hr13 : Kd.C k53 w A13 l13.length l13) (hc13 : l13.length ≤ c13) (hr14 : Kd.C k77 w A14 l14.length l14) (hc14 : l14.length ≤ c14) (hl : l13.length ≤ maxLen) (ms5 : Kd.C k70 w D5 m5.length m5) (me5 : m5.length ≤ e5) (ms13 : Kd.C k53 w D13 m13.length m13) (me13 : m13.length ≤ e13) (ms14 : Kd.C k77 w D14 m14.length m14) (me14 : m14.length ≤ e14) (hm : m13.length ≤ maxLen) (hh : heavyB l5 l13 l14 = false) (hh2 : heavyB m5 m13 m14 = false)
  (r13 : List S90) (hr : r13 = l13.map to90) (T : ByteArray) (er : Int) (mv : Bool) (KM : Nat) (hE : letter_Encode.f a0 a1 a2 a3 a4 l5 a6 a7 a8 a9 a10 a11 a12 l13 l14 a15 = some (T, er)) (hmv : letter_May.f a0 a1 a2 a3 a4 l5 a6 a7 a8 a9 a10 a11 a12 l13 l14 a15 = some mv) (hmr : conventicleref15_May.f KM a0 a1 a2 a3 a4 l5 a6 a7 a8 a9 a10 a11 a12 r13 l14 a15 = some mv)
  (hRE : ∀ (w : World) (A5 : Option Addr) (c5 : Nat) (A13 : Option Addr) (c13 : Nat) (A14 : Option Addr) (c14 : Nat) (hr5 : Kd.C k70 w A5 l5.length l5) (hc5 : l5.length ≤ c5) (hr13 : Kd.C k90 w A13 r13.length r13) (hc13 : r13.length ≤ c13) (hr14 : Kd.C k77 w A14 l14.length l14) (hc14 : l14.length ≤ c14), Calls Try.prog 19 #[.agg #[.int .i64 a0, .int .i64 a1, .int .i64 a2, .int .u64 a3, .int .i64 a4, .slice A5 l5.length c5, .int .u64 a6, .int .u64 a7, .int .u64 a8, .int .u64 a9, .int .u64 a10, .int .u64 a11, .int .u64 a12, .slice A13 r13.length c13, .slice A14 l14.length c14, .float .f64 a15]] w fun e w' => e = .returned (.tuple #[.string T, .int .i64 er]) ∧ Below w.heap.size w w') :
  Calls Try.prog 7 #[.agg #[.int .i64 a0, .int .i64 a1, .int .i64 a2, .int .u64 a3, .int .i64 a4, .slice A5 l5.length c5, .int .u64 a6, .int .u64 a7, .int .u64 a8, .int .u64 a9, .int .u64 a10, .int .u64 a11, .int .u64 a12, .slice A13 l13.length c13, .slice A14 l14.length c14, .float .f64 a15], .agg #[.int .i64 b0, .int .i64 b1, .int .i64 b2, .int .u64 b3, .int .i64 b4, .slice D5 m5.length e5, .int .u64 b6, .int .u64 b7, .int .u64 b8, .int .u64 b9, .int .u64 b10, .int .u64 b11, .int .u64 b12, .slice D13 m13.length e13, .slice D14 m14.length e14, .float .f64 b15]] w fun e w' => e = .returned (.bool true) ∧ Below w.heap.size w w' := by
 have H5 := Aside0.mk hr5
 have HC5 := Aside0.mk hc5
 have M5 := Aside0.mk ms5
 have ME5 := Aside0.mk me5
 have H13 := Aside0.mk hr13
 have HC13 := Aside0.mk hc13
 have M13 := Aside0.mk ms13
 have ME13 := Aside0.mk me13
 have H14 := Aside0.mk hr14
 have HC14 := Aside0.mk hc14
 have M14 := Aside0.mk ms14
 have ME14 := Aside0.mk me14
 have si32 := si32
 have HHL := Aside0.mk (heavy_is a0 a1 a2 a3 a4 l5 a6 a7 a8 a9 a10 a11 a12 l13 l14 a15 hl (l13.length + 2) (by omega))
 have HHM := Aside0.mk (heavy_is b0 b1 b2 b3 b4 m5 b6 b7 b8 b9 b10 b11 b12 m13 m14 b15 hm (m13.length + 2) (by omega))
 rw [hh] at HHL
 rw [hh2] at HHM
 have hl3 : l13.length ≤ 1000 := by have := hh; simp [heavyB] at this; omega
 have hm3 : m13.length ≤ 1000 := by have := hh2; simp [heavyB] at this; omega
 have HLL := Aside0.mk hl3
 have HLM := Aside0.mk hm3
 obtain ⟨sv, hsl, hsr⟩ := same_pair a0 a1 a2 a3 a4 l5 a6 a7 a8 a9 a10 a11 a12 l13 l14 a15 b0 b1 b2 b3 b4 m5 b6 b7 b8 b9 b10 b11 b12 m13 m14 b15
 obtain ⟨s13, hs⟩ : ∃ s, s = m13.map to90 := ⟨_, rfl⟩
 have HSL := Aside0.mk hsl
 have HSR := Aside0.mk hsr
 have HR := Aside0.mk hr
 have HS := Aside0.mk hs
 have HE := Aside0.mk hE
 have HMV := Aside0.mk hmv
 have HMR := Aside0.mk hmr
 have HRE := Aside0.mk hRE
 clear hr5 hr13 hr14 hc5 hc13 hc14 ms5 ms13 ms14 me5 me13 me14 hl hm hh hh2 hl3 hm3 hsl hsr hr hs hE hmv hmr hRE
 go_enter Try.func7, Try.ntmps7
 go_upto_region 5 with (first
  | ((with_reducible refine gate_dst (N := 2) rfl ?_); refine box_event ?hg (N := 2) ?hd (cs := #[.int .i64 a0, .int .i64 a1, .int .i64 a2, .int .u64 a3, .int .i64 a4, .slice A5 l5.length c5, .int .u64 a6, .int .u64 a7, .int .u64 a8, .int .u64 a9, .int .u64 a10, .int .u64 a11, .int .u64 a12, .slice A13 l13.length c13, .slice A14 l14.length c14, .float .f64 a15]) (t := 32) ?hr ?_; (case hd => rfl); (case hg => rfl); (case hr => first | (go_simp; done) | (go_simp; rfl)); intro g1 hg_ w1 hb_ hB_; have K1 := Aside0.mk hb_; have B := Aside0.mk hB_; clear hg_ hb_ hB_)
  | ((with_reducible refine gate_dst (N := 3) rfl ?_); refine box_event ?hg (N := 3) ?hd (cs := #[.int .i64 b0, .int .i64 b1, .int .i64 b2, .int .u64 b3, .int .i64 b4, .slice D5 m5.length e5, .int .u64 b6, .int .u64 b7, .int .u64 b8, .int .u64 b9, .int .u64 b10, .int .u64 b11, .int .u64 b12, .slice D13 m13.length e13, .slice D14 m14.length e14, .float .f64 b15]) (t := 32) ?hr ?_; (case hd => rfl); (case hg => rfl); (case hr => first | (go_simp; done) | (go_simp; rfl)); intro g2 hg_ w2 hb_ hB_; have K2 := Aside0.mk hb_; replace K1 := Aside0.mk (blk_below K1.out hB_); replace B := Aside0.mk (below_step B.out hB_); clear hg_ hb_ hB_)
  | (refine wpList_load_row rfl 32 (.tmp 2) rfl g1 rfl 32 #[.int .i64 a0, .int .i64 a1, .int .i64 a2, .int .u64 a3, .int .i64 a4, .slice A5 l5.length c5, .int .u64 a6, .int .u64 a7, .int .u64 a8, .int .u64 a9, .int .u64 a10, .int .u64 a11, .int .u64 a12, .slice A13 l13.length c13, .slice A14 l14.length c14, .float .f64 a15] (0, 0) _ K1.out Try.underlying32 rfl si32 ?_)
  | (refine enc_loadG rfl (.tmp 3) rfl g2 rfl #[.int .i64 b0, .int .i64 b1, .int .i64 b2, .int .u64 b3, .int .i64 b4, .slice D5 m5.length e5, .int .u64 b6, .int .u64 b7, .int .u64 b8, .int .u64 b9, .int .u64 b10, .int .u64 b11, .int .u64 b12, .slice D13 m13.length e13, .slice D14 m14.length e14, .float .f64 b15] K2.out si32 ?_)
  | (refine enc_callG (some 10) rfl rfl Try.func15 (by kernel_rfl) rfl #[.agg #[.int .i64 a0, .int .i64 a1, .int .i64 a2, .int .u64 a3, .int .i64 a4, .slice A5 l5.length c5, .int .u64 a6, .int .u64 a7, .int .u64 a8, .int .u64 a9, .int .u64 a10, .int .u64 a11, .int .u64 a12, .slice A13 l13.length c13, .slice A14 l14.length c14, .float .f64 a15]] rfl (by (try simp only [List.map_toArray, List.map_cons, List.map_nil]); first | done | rfl) ?_; refine (conventiclelaw15_heavy.calls (l13.length + 2) a0 a1 a2 a3 a4 A5 c5 l5 a6 a7 a8 a9 a10 a11 a12 A13 c13 l13 A14 c14 l14 a15 _ _ (Kd.C_below H5.out B.out) HC5.out (Kd.C_below H13.out B.out) HC13.out (Kd.C_below H14.out B.out) HC14.out HHL.out).mono ?_; rintro e w3 ⟨rfl, hb⟩; replace K1 := Aside0.mk (blk_below K1.out hb); replace K2 := Aside0.mk (blk_below K2.out hb); replace B := Aside0.mk (below_step B.out hb); clear hb; refine ⟨_, rfl, ?_⟩)
  | (refine enc_callG (some 13) rfl rfl Try.func15 (by kernel_rfl) rfl #[.agg #[.int .i64 b0, .int .i64 b1, .int .i64 b2, .int .u64 b3, .int .i64 b4, .slice D5 m5.length e5, .int .u64 b6, .int .u64 b7, .int .u64 b8, .int .u64 b9, .int .u64 b10, .int .u64 b11, .int .u64 b12, .slice D13 m13.length e13, .slice D14 m14.length e14, .float .f64 b15]] rfl (by (try simp only [List.map_toArray, List.map_cons, List.map_nil]); first | done | rfl) ?_; refine (conventiclelaw15_heavy.calls (m13.length + 2) b0 b1 b2 b3 b4 D5 e5 m5 b6 b7 b8 b9 b10 b11 b12 D13 e13 m13 D14 e14 m14 b15 _ _ (Kd.C_below M5.out B.out) ME5.out (Kd.C_below M13.out B.out) ME13.out (Kd.C_below M14.out B.out) ME14.out HHM.out).mono ?_; rintro e w4 ⟨rfl, hb⟩; replace K1 := Aside0.mk (blk_below K1.out hb); replace K2 := Aside0.mk (blk_below K2.out hb); replace B := Aside0.mk (below_step B.out hb); clear hb; refine ⟨_, rfl, ?_⟩)
  | (go_at_call 8; refine (conventiclelaw15_shown.calls true _ rfl).mono ?_; rintro e w5 ⟨rfl, hb⟩; replace K1 := Aside0.mk (blk_below K1.out hb); replace K2 := Aside0.mk (blk_below K2.out hb); replace B := Aside0.mk (below_step B.out hb); clear hb)
  | (go_at_call 14; refine (letter_Encode.calls a0 a1 a2 a3 a4 A5 c5 l5 a6 a7 a8 a9 a10 a11 a12 A13 c13 l13 A14 c14 l14 a15 _ _ _ (Kd.C_below H5.out B.out) HC5.out (Kd.C_below H13.out B.out) HC13.out (Kd.C_below H14.out B.out) HC14.out HE.out).mono ?_; rintro e w6 ⟨rfl, hb⟩; replace K1 := Aside0.mk (blk_below K1.out hb); replace K2 := Aside0.mk (blk_below K2.out hb); replace B := Aside0.mk (below_step B.out hb); clear hb)
  | (go_at_call 13; refine (theirs_at a0 a1 a2 a3 a4 A5 c5 l5 a6 a7 a8 a9 a10 a11 a12 A13 c13 l13 A14 c14 l14 a15 _ (Kd.C_below H5.out B.out) (Kd.C_below H13.out B.out) (Kd.C_below H14.out B.out) HLL.out).mono ?_; rintro e w7 ⟨v_, rfl, ho_, hb⟩; rw [← HR.out] at ho_; obtain ⟨E13, f13, rfl⟩ := Kd.R_slice ho_; have HO := Aside0.mk (Kd.R_reads' ho_); clear ho_; replace K1 := Aside0.mk (blk_below K1.out hb); replace K2 := Aside0.mk (blk_below K2.out hb); replace B := Aside0.mk (below_step B.out hb); clear hb)
  | (go_at_call 19; refine (HRE.out _ A5 c5 E13 f13 A14 c14 (Kd.C_below H5.out B.out) HC5.out HO.out.2.2 HO.out.2.1 (Kd.C_below H14.out B.out) HC14.out).mono ?_; rintro e wt ⟨rfl, hb⟩; clear HO; replace K1 := Aside0.mk (blk_below K1.out hb); replace K2 := Aside0.mk (blk_below K2.out hb); replace B := Aside0.mk (below_step B.out hb); clear hb))
 refine start_ (n := 33) (S := fun w' => Below wt.drew.heap.size wt.drew w') (ds := []) #[ff,ff,ff,ff,ff,ff,ff,ff,ff,ff,ff,ff,ff,ff,ff,ff,ff,ff,ff,ff,ff,ff,ff,ff,ff,ff,ff,ff,ff,ff,ff,ff,ff] (by kernel_rfl) rfl rfl (Below.refl _ _) (fun hHeld => ?_)
 have K1d := Aside0.mk (blk_drew K1.out)
 have K2d := Aside0.mk (blk_drew K2.out)
 have BD := Aside0.mk (below_drew1 B.out)
 generalize wt.drew = wd at K1d K2d BD hHeld ⊢
 refine with_tabW encw5_tab encw5_bits (fun HT_ HW_ => ?_)
 refine pure_ (i := 0) (N := some 31) (v := .string T) (a' := ?_) #[tt,ff,ff,ff,ff,ff,ff,ff,ff,ff,ff,ff,ff,ff,ff,ff,ff,ff,ff,ff,ff,ff,ff,ff,ff,ff,ff,ff,ff,ff,ff,ff,ff] rfl rfl (any_of HT_.out (by kernel_rfl)) (fun _ _ _ h => h) (Or.inl ⟨by rfl, ?_⟩) ?_ ?_
 ·(intro w'; go_simp; first | done | rfl | simp)
 rotate_left
 ·(simp only [Act.put,zA,zB,zC,i64_w,i32_w]; rfl)
 refine pure_ (i := 1) (N := some 32) (v := .string T) (a' := ?_) #[tt,tt,ff,ff,ff,ff,ff,ff,ff,ff,ff,ff,ff,ff,ff,ff,ff,ff,ff,ff,ff,ff,ff,ff,ff,ff,ff,ff,ff,ff,ff,ff,ff] rfl rfl (any_of HT_.out (by kernel_rfl)) (fun _ _ _ h => h) (Or.inl ⟨by rfl, ?_⟩) ?_ ?_
 ·(intro w'; go_simp; first | done | rfl | simp)
 rotate_left
 ·(simp only [Act.put,zA,zB,zC,i64_w,i32_w]; rfl)
 refine pure_ (i := 2) (N := some 33) (v := .bool true) (a' := ?_) #[tt,tt,tt,ff,ff,ff,ff,ff,ff,ff,ff,ff,ff,ff,ff,ff,ff,ff,ff,ff,ff,ff,ff,ff,ff,ff,ff,ff,ff,ff,ff,ff,ff] rfl rfl (any_of HT_.out (by kernel_rfl)) (fun _ _ _ h => h) (Or.inl ⟨by rfl, ?_⟩) ?_ ?_
 ·(intro w'; go_simp; first | done | rfl | simp)
 rotate_left
 ·(simp only [Act.put,zA,zB,zC,i64_w,i32_w]; rfl)
 refine pure_ (i := 3) (N := some 34) (v := .bool true) (a' := ?_) #[tt,tt,tt,tt,ff,ff,ff,ff,ff,ff,ff,ff,ff,ff,ff,ff,ff,ff,ff,ff,ff,ff,ff,ff,ff,ff,ff,ff,ff,ff,ff,ff,ff] rfl rfl (any_of HT_.out (by kernel_rfl)) (fun _ _ _ h => h) (Or.inl ⟨by rfl, ?_⟩) ?_ ?_
 ·(intro w'; go_simp; first | done | rfl | simp)
 rotate_left
 ·(simp only [Act.put,zA,zB,zC,i64_w,i32_w]; rfl)
 refine pure_ (i := 4) (N := some 35) (v := .int .i64 er) (a' := ?_) #[tt,tt,tt,tt,tt,ff,ff,ff,ff,ff,ff,ff,ff,ff,ff,ff,ff,ff,ff,ff,ff,ff,ff,ff,ff,ff,ff,ff,ff,ff,ff,ff,ff] rfl rfl (any_of HT_.out (by kernel_rfl)) (fun _ _ _ h => h) (Or.inl ⟨by rfl, ?_⟩) ?_ ?_
 ·(intro w'; go_simp; first | done | rfl | simp)
 rotate_left
 ·(simp only [Act.put,zA,zB,zC,i64_w,i32_w]; rfl)
 refine pure_ (i := 5) (N := some 36) (v := .int .i64 er) (a' := ?_) #[tt,tt,tt,tt,tt,tt,ff,ff,ff,ff,ff,ff,ff,ff,ff,ff,ff,ff,ff,ff,ff,ff,ff,ff,ff,ff,ff,ff,ff,ff,ff,ff,ff] rfl rfl (any_of HT_.out (by kernel_rfl)) (fun _ _ _ h => h) (Or.inl ⟨by rfl, ?_⟩) ?_ ?_
 ·(intro w'; go_simp; first | done | rfl | simp)
 rotate_left
 ·(simp only [Act.put,zA,zB,zC,i64_w,i32_w]; rfl)
 refine pure_ (i := 6) (N := some 37) (v := .bool true) (a' := ?_) #[tt,tt,tt,tt,tt,tt,tt,ff,ff,ff,ff,ff,ff,ff,ff,ff,ff,ff,ff,ff,ff,ff,ff,ff,ff,ff,ff,ff,ff,ff,ff,ff,ff] rfl rfl (any_of HT_.out (by kernel_rfl)) (fun _ _ _ h => h) (Or.inl ⟨by rfl, ?_⟩) ?_ ?_
 ·(intro w'; go_simp; first | done | rfl | simp)
 rotate_left
 ·(simp only [Act.put,zA,zB,zC,i64_w,i32_w]; rfl)
 refine pure_ (i := 7) (N := some 38) (v := .bool true) (a' := ?_) #[tt,tt,tt,tt,tt,tt,tt,tt,ff,ff,ff,ff,ff,ff,ff,ff,ff,ff,ff,ff,ff,ff,ff,ff,ff,ff,ff,ff,ff,ff,ff,ff,ff] rfl rfl (any_of HT_.out (by kernel_rfl)) (fun _ _ _ h => h) (Or.inl ⟨by rfl, ?_⟩) ?_ ?_
 ·(intro w'; go_simp; first | done | rfl | simp)
 rotate_left
 ·(simp only [Act.put,zA,zB,zC,i64_w,i32_w]; rfl)
 refine pure_ (i := 8) (N := some 39) (v := .bool true) (a' := ?_) #[tt,tt,tt,tt,tt,tt,tt,tt,tt,ff,ff,ff,ff,ff,ff,ff,ff,ff,ff,ff,ff,ff,ff,ff,ff,ff,ff,ff,ff,ff,ff,ff,ff] rfl rfl (any_of HT_.out (by kernel_rfl)) (fun _ _ _ h => h) (Or.inl ⟨by rfl, ?_⟩) ?_ ?_
 ·(intro w'; go_simp; first | done | rfl | simp)
 rotate_left
 ·(simp only [Act.put,zA,zB,zC,i64_w,i32_w]; rfl)
 refine take_ (i := 9) (N := some 40) (v := .agg #[.int .i64 a0, .int .i64 a1, .int .i64 a2, .int .u64 a3, .int .i64 a4, .slice A5 l5.length c5, .int .u64 a6, .int .u64 a7, .int .u64 a8, .int .u64 a9, .int .u64 a10, .int .u64 a11, .int .u64 a12, .slice A13 l13.length c13, .slice A14 l14.length c14, .float .f64 a15]) (a' := ?_) #[tt,tt,tt,tt,tt,tt,tt,tt,tt,tt,ff,ff,ff,ff,ff,ff,ff,ff,ff,ff,ff,ff,ff,ff,ff,ff,ff,ff,ff,ff,ff,ff,ff] rfl rfl (take_ofW HT_.out HW_.out (by kernel_rfl)) (fun _ _ _ h => h) (Or.inl ⟨by rfl, ?_⟩) hHeld ?_ ?_
 ·(intro w' s0; exact enc_yields32 _ rfl g1 rfl 32 #[.int .i64 a0, .int .i64 a1, .int .i64 a2, .int .u64 a3, .int .i64 a4, .slice A5 l5.length c5, .int .u64 a6, .int .u64 a7, .int .u64 a8, .int .u64 a9, .int .u64 a10, .int .u64 a11, .int .u64 a12, .slice A13 l13.length c13, .slice A14 l14.length c14, .float .f64 a15] (0, 0) (blk_below K1d.out s0) si32)
 rotate_left
 ·(simp only [Act.put,zA,zB,zC,i64_w,i32_w]; rfl)
 refine take_ (i := 11) (N := some 42) (v := .agg #[.int .i64 a0, .int .i64 a1, .int .i64 a2, .int .u64 a3, .int .i64 a4, .slice A5 l5.length c5, .int .u64 a6, .int .u64 a7, .int .u64 a8, .int .u64 a9, .int .u64 a10, .int .u64 a11, .int .u64 a12, .slice A13 l13.length c13, .slice A14 l14.length c14, .float .f64 a15]) (a' := ?_) #[tt,tt,tt,tt,tt,tt,tt,tt,tt,tt,ff,tt,ff,ff,ff,ff,ff,ff,ff,ff,ff,ff,ff,ff,ff,ff,ff,ff,ff,ff,ff,ff,ff] rfl rfl (take_ofW HT_.out HW_.out (by kernel_rfl)) (fun _ _ _ h => h) (Or.inl ⟨by rfl, ?_⟩) hHeld ?_ ?_
 ·(intro w' s0; exact enc_yields32 _ rfl g1 rfl 32 #[.int .i64 a0, .int .i64 a1, .int .i64 a2, .int .u64 a3, .int .i64 a4, .slice A5 l5.length c5, .int .u64 a6, .int .u64 a7, .int .u64 a8, .int .u64 a9, .int .u64 a10, .int .u64 a11, .int .u64 a12, .slice A13 l13.length c13, .slice A14 l14.length c14, .float .f64 a15] (0, 0) (blk_below K1d.out s0) si32)
 rotate_left
 ·(simp only [Act.put,zA,zB,zC,i64_w,i32_w]; rfl)
 refine one_ (i := 10) (N := some 41) #[tt,tt,tt,tt,tt,tt,tt,tt,tt,tt,tt,tt,ff,ff,ff,ff,ff,ff,ff,ff,ff,ff,ff,ff,ff,ff,ff,ff,ff,ff,ff,ff,ff] rfl rfl (one_of HT_.out (by kernel_rfl)) (by decide) (fun K hK => ?_)
 refine goes_ Try.func18 (by kernel_rfl) rfl #[.agg #[.int .i64 a0, .int .i64 a1, .int .i64 a2, .int .u64 a3, .int .i64 a4, .slice A5 l5.length c5, .int .u64 a6, .int .u64 a7, .int .u64 a8, .int .u64 a9, .int .u64 a10, .int .u64 a11, .int .u64 a12, .slice A13 l13.length c13, .slice A14 l14.length c14, .float .f64 a15]] (by rfl) rfl rfl (by (try simp only [List.map_toArray, List.map_cons, List.map_nil]); first | done | rfl) ?_
 refine (letter_May.calls a0 a1 a2 a3 a4 A5 c5 l5 a6 a7 a8 a9 a10 a11 a12 A13 c13 l13 A14 c14 l14 a15 mv _ (Kd.C_below H5.out (below_step BD.out hHeld)) HC5.out (Kd.C_below H13.out (below_step BD.out hHeld)) HC13.out (Kd.C_below H14.out (below_step BD.out hHeld)) HC14.out HMV.out).mono ?_
 rintro e w' ⟨rfl, hb⟩
 have hHe := below_step hHeld hb
 clear hHeld hb
 refine ⟨_, rfl, ?_⟩
 refine hK _ _ hHe (fun hHeld => ?_)
 clear hK K hHe
 refine norm_ (a' := ?_) ?_ ?_
 rotate_left
 ·(show Act.put _ (some 41) _ = _; simp only [Act.put,zA,zB,zC,i64_w,i32_w]; rfl)
 refine one_ (i := 12) (N := some 43) #[tt,tt,tt,tt,tt,tt,tt,tt,tt,tt,tt,tt,tt,ff,ff,ff,ff,ff,ff,ff,ff,ff,ff,ff,ff,ff,ff,ff,ff,ff,ff,ff,ff] rfl rfl (one_of HT_.out (by kernel_rfl)) (by decide) (fun K hK => ?_)
 refine goes_ Try.func13 (by kernel_rfl) rfl #[.agg #[.int .i64 a0, .int .i64 a1, .int .i64 a2, .int .u64 a3, .int .i64 a4, .slice A5 l5.length c5, .int .u64 a6, .int .u64 a7, .int .u64 a8, .int .u64 a9, .int .u64 a10, .int .u64 a11, .int .u64 a12, .slice A13 l13.length c13, .slice A14 l14.length c14, .float .f64 a15]] (by rfl) rfl rfl (by (try simp only [List.map_toArray, List.map_cons, List.map_nil]); first | done | rfl) ?_
 refine (theirs_at a0 a1 a2 a3 a4 A5 c5 l5 a6 a7 a8 a9 a10 a11 a12 A13 c13 l13 A14 c14 l14 a15 _ (Kd.C_below H5.out (below_step BD.out hHeld)) (Kd.C_below H13.out (below_step BD.out hHeld)) (Kd.C_below H14.out (below_step BD.out hHeld)) HLL.out).mono ?_
 rintro e wu ⟨v_, rfl, ho_, hb⟩
 rw [← HR.out] at ho_
 obtain ⟨E13, f13, rfl⟩ := Kd.R_slice ho_
 have HO := Aside0.mk (Kd.R_reads' ho_)
 have hHe := below_step hHeld hb
 clear hHeld hb ho_
 refine ⟨_, rfl, ?_⟩
 refine hK _ _ hHe (fun hHeld => ?_)
 clear hK K hHe
 refine norm_ (a' := ?_) ?_ ?_
 rotate_left
 ·(show Act.put _ (some 43) _ = _; simp only [Act.put,zA,zB,zC,i64_w,i32_w]; rfl)
 refine one_ (i := 13) (N := some 44) #[tt,tt,tt,tt,tt,tt,tt,tt,tt,tt,tt,tt,tt,tt,ff,ff,ff,ff,ff,ff,ff,ff,ff,ff,ff,ff,ff,ff,ff,ff,ff,ff,ff] rfl rfl (one_of HT_.out (by kernel_rfl)) (by decide) (fun K hK => ?_)
 refine goes_ Try.func20 (by kernel_rfl) rfl #[.agg #[.int .i64 a0, .int .i64 a1, .int .i64 a2, .int .u64 a3, .int .i64 a4, .slice A5 l5.length c5, .int .u64 a6, .int .u64 a7, .int .u64 a8, .int .u64 a9, .int .u64 a10, .int .u64 a11, .int .u64 a12, .slice E13 r13.length f13, .slice A14 l14.length c14, .float .f64 a15]] (by rfl) rfl rfl (by (try simp only [List.map_toArray, List.map_cons, List.map_nil]); first | done | rfl) ?_
 refine (conventicleref15_May.calls KM a0 a1 a2 a3 a4 A5 c5 l5 a6 a7 a8 a9 a10 a11 a12 E13 f13 r13 A14 c14 l14 a15 mv _ (Kd.C_below H5.out (below_step BD.out hHeld)) HC5.out HO.out.2.2 HO.out.2.1 (Kd.C_below H14.out (below_step BD.out hHeld)) HC14.out HMR.out).mono ?_
 rintro e w' ⟨rfl, hb⟩
 have hHe := below_step hHeld hb
 clear hHeld hb
 refine ⟨_, rfl, ?_⟩
 refine hK _ _ hHe (fun hHeld => ?_)
 clear hK K hHe
 refine norm_ (a' := ?_) ?_ ?_
 rotate_left
 ·(show Act.put _ (some 44) _ = _; simp only [Act.put,zA,zB,zC,i64_w,i32_w]; rfl)
 clear HO
 refine pure_ (i := 14) (N := some 45) (v := .bool true) (a' := ?_) #[tt,tt,tt,tt,tt,tt,tt,tt,tt,tt,tt,tt,tt,tt,tt,ff,ff,ff,ff,ff,ff,ff,ff,ff,ff,ff,ff,ff,ff,ff,ff,ff,ff] rfl rfl (any_of HT_.out (by kernel_rfl)) (fun _ _ _ h => h) (Or.inl ⟨by rfl, ?_⟩) ?_ ?_
 ·(intro w'; cases mv <;> (go_simp; first | done | rfl | simp))
 rotate_left
 ·(simp only [Act.put,zA,zB,zC,i64_w,i32_w]; rfl)
 refine pure_ (i := 15) (N := some 46) (v := .bool true) (a' := ?_) #[tt,tt,tt,tt,tt,tt,tt,tt,tt,tt,tt,tt,tt,tt,tt,tt,ff,ff,ff,ff,ff,ff,ff,ff,ff,ff,ff,ff,ff,ff,ff,ff,ff] rfl rfl (any_of HT_.out (by kernel_rfl)) (fun _ _ _ h => h) (Or.inl ⟨by rfl, ?_⟩) ?_ ?_
 ·(intro w'; go_simp; first | done | rfl | simp)
 rotate_left
 ·(simp only [Act.put,zA,zB,zC,i64_w,i32_w]; rfl)
 refine pure_ (i := 16) (N := some 47) (v := .bool true) (a' := ?_) #[tt,tt,tt,tt,tt,tt,tt,tt,tt,tt,tt,tt,tt,tt,tt,tt,tt,ff,ff,ff,ff,ff,ff,ff,ff,ff,ff,ff,ff,ff,ff,ff,ff] rfl rfl (any_of HT_.out (by kernel_rfl)) (fun _ _ _ h => h) (Or.inl ⟨by rfl, ?_⟩) ?_ ?_
 ·(intro w'; go_simp; first | done | rfl | simp)
 rotate_left
 ·(simp only [Act.put,zA,zB,zC,i64_w,i32_w]; rfl)
 refine take_ (i := 17) (N := some 48) (v := .agg #[.int .i64 a0, .int .i64 a1, .int .i64 a2, .int .u64 a3, .int .i64 a4, .slice A5 l5.length c5, .int .u64 a6, .int .u64 a7, .int .u64 a8, .int .u64 a9, .int .u64 a10, .int .u64 a11, .int .u64 a12, .slice A13 l13.length c13, .slice A14 l14.length c14, .float .f64 a15]) (a' := ?_) #[tt,tt,tt,tt,tt,tt,tt,tt,tt,tt,tt,tt,tt,tt,tt,tt,tt,tt,ff,ff,ff,ff,ff,ff,ff,ff,ff,ff,ff,ff,ff,ff,ff] rfl rfl (take_ofW HT_.out HW_.out (by kernel_rfl)) (fun _ _ _ h => h) (Or.inl ⟨by rfl, ?_⟩) hHeld ?_ ?_
 ·(intro w' s0; exact enc_yields32 _ rfl g1 rfl 32 #[.int .i64 a0, .int .i64 a1, .int .i64 a2, .int .u64 a3, .int .i64 a4, .slice A5 l5.length c5, .int .u64 a6, .int .u64 a7, .int .u64 a8, .int .u64 a9, .int .u64 a10, .int .u64 a11, .int .u64 a12, .slice A13 l13.length c13, .slice A14 l14.length c14, .float .f64 a15] (0, 0) (blk_below K1d.out s0) si32)
 rotate_left
 ·(simp only [Act.put,zA,zB,zC,i64_w,i32_w]; rfl)
 refine take_ (i := 18) (N := some 49) (v := .agg #[.int .i64 b0, .int .i64 b1, .int .i64 b2, .int .u64 b3, .int .i64 b4, .slice D5 m5.length e5, .int .u64 b6, .int .u64 b7, .int .u64 b8, .int .u64 b9, .int .u64 b10, .int .u64 b11, .int .u64 b12, .slice D13 m13.length e13, .slice D14 m14.length e14, .float .f64 b15]) (a' := ?_) #[tt,tt,tt,tt,tt,tt,tt,tt,tt,tt,tt,tt,tt,tt,tt,tt,tt,tt,tt,ff,ff,ff,ff,ff,ff,ff,ff,ff,ff,ff,ff,ff,ff] rfl rfl (take_ofW HT_.out HW_.out (by kernel_rfl)) (fun _ _ _ h => h) (Or.inl ⟨by rfl, ?_⟩) hHeld ?_ ?_
 ·(intro w' s0; exact enc_yields32 _ rfl g2 rfl 32 #[.int .i64 b0, .int .i64 b1, .int .i64 b2, .int .u64 b3, .int .i64 b4, .slice D5 m5.length e5, .int .u64 b6, .int .u64 b7, .int .u64 b8, .int .u64 b9, .int .u64 b10, .int .u64 b11, .int .u64 b12, .slice D13 m13.length e13, .slice D14 m14.length e14, .float .f64 b15] (0, 0) (blk_below K2d.out s0) si32)
 rotate_left
 ·(simp only [Act.put,zA,zB,zC,i64_w,i32_w]; rfl)
 refine take_ (i := 20) (N := some 51) (v := .agg #[.int .i64 a0, .int .i64 a1, .int .i64 a2, .int .u64 a3, .int .i64 a4, .slice A5 l5.length c5, .int .u64 a6, .int .u64 a7, .int .u64 a8, .int .u64 a9, .int .u64 a10, .int .u64 a11, .int .u64 a12, .slice A13 l13.length c13, .slice A14 l14.length c14, .float .f64 a15]) (a' := ?_) #[tt,tt,tt,tt,tt,tt,tt,tt,tt,tt,tt,tt,tt,tt,tt,tt,tt,tt,tt,ff,tt,ff,ff,ff,ff,ff,ff,ff,ff,ff,ff,ff,ff] rfl rfl (take_ofW HT_.out HW_.out (by kernel_rfl)) (fun _ _ _ h => h) (Or.inl ⟨by rfl, ?_⟩) hHeld ?_ ?_
 ·(intro w' s0; exact enc_yields32 _ rfl g1 rfl 32 #[.int .i64 a0, .int .i64 a1, .int .i64 a2, .int .u64 a3, .int .i64 a4, .slice A5 l5.length c5, .int .u64 a6, .int .u64 a7, .int .u64 a8, .int .u64 a9, .int .u64 a10, .int .u64 a11, .int .u64 a12, .slice A13 l13.length c13, .slice A14 l14.length c14, .float .f64 a15] (0, 0) (blk_below K1d.out s0) si32)
 rotate_left
 ·(simp only [Act.put,zA,zB,zC,i64_w,i32_w]; rfl)
 refine take_ (i := 22) (N := some 53) (v := .agg #[.int .i64 b0, .int .i64 b1, .int .i64 b2, .int .u64 b3, .int .i64 b4, .slice D5 m5.length e5, .int .u64 b6, .int .u64 b7, .int .u64 b8, .int .u64 b9, .int .u64 b10, .int .u64 b11, .int .u64 b12, .slice D13 m13.length e13, .slice D14 m14.length e14, .float .f64 b15]) (a' := ?_) #[tt,tt,tt,tt,tt,tt,tt,tt,tt,tt,tt,tt,tt,tt,tt,tt,tt,tt,tt,ff,tt,ff,tt,ff,ff,ff,ff,ff,ff,ff,ff,ff,ff] rfl rfl (take_ofW HT_.out HW_.out (by kernel_rfl)) (fun _ _ _ h => h) (Or.inl ⟨by rfl, ?_⟩) hHeld ?_ ?_
 ·(intro w' s0; exact enc_yields32 _ rfl g2 rfl 32 #[.int .i64 b0, .int .i64 b1, .int .i64 b2, .int .u64 b3, .int .i64 b4, .slice D5 m5.length e5, .int .u64 b6, .int .u64 b7, .int .u64 b8, .int .u64 b9, .int .u64 b10, .int .u64 b11, .int .u64 b12, .slice D13 m13.length e13, .slice D14 m14.length e14, .float .f64 b15] (0, 0) (blk_below K2d.out s0) si32)
 rotate_left
 ·(simp only [Act.put,zA,zB,zC,i64_w,i32_w]; rfl)
 refine one_ (i := 19) (N := some 50) #[tt,tt,tt,tt,tt,tt,tt,tt,tt,tt,tt,tt,tt,tt,tt,tt,tt,tt,tt,tt,tt,ff,tt,ff,ff,ff,ff,ff,ff,ff,ff,ff,ff] rfl rfl (one_of HT_.out (by kernel_rfl)) (by decide) (fun K hK => ?_)
 refine goes_ Try.func21 (by kernel_rfl) rfl #[.agg #[.int .i64 a0, .int .i64 a1, .int .i64 a2, .int .u64 a3, .int .i64 a4, .slice A5 l5.length c5, .int .u64 a6, .int .u64 a7, .int .u64 a8, .int .u64 a9, .int .u64 a10, .int .u64 a11, .int .u64 a12, .slice A13 l13.length c13, .slice A14 l14.length c14, .float .f64 a15], .agg #[.int .i64 b0, .int .i64 b1, .int .i64 b2, .int .u64 b3, .int .i64 b4, .slice D5 m5.length e5, .int .u64 b6, .int .u64 b7, .int .u64 b8, .int .u64 b9, .int .u64 b10, .int .u64 b11, .int .u64 b12, .slice D13 m13.length e13, .slice D14 m14.length e14, .float .f64 b15]] (by rfl) rfl rfl (by (try simp only [List.map_toArray, List.map_cons, List.map_nil]); first | done | rfl) ?_
 refine (HSL.out _ A5 c5 A13 c13 A14 c14 D5 e5 D13 e13 D14 e14 (Kd.C_below H5.out (below_step BD.out hHeld)) HC5.out (Kd.C_below H13.out (below_step BD.out hHeld)) HC13.out (Kd.C_below H14.out (below_step BD.out hHeld)) HC14.out (Kd.C_below M5.out (below_step BD.out hHeld)) ME5.out (Kd.C_below M13.out (below_step BD.out hHeld)) ME13.out (Kd.C_below M14.out (below_step BD.out hHeld)) ME14.out).mono ?_
 rintro e w' ⟨rfl, hb⟩
 have hHe := below_step hHeld hb
 clear hHeld hb
 refine ⟨_, rfl, ?_⟩
 refine hK _ _ hHe (fun hHeld => ?_)
 clear hK K hHe
 refine norm_ (a' := ?_) ?_ ?_
 rotate_left
 ·(show Act.put _ (some 50) _ = _; simp only [Act.put,zA,zB,zC,i64_w,i32_w]; rfl)
 refine one_ (i := 21) (N := some 52) #[tt,tt,tt,tt,tt,tt,tt,tt,tt,tt,tt,tt,tt,tt,tt,tt,tt,tt,tt,tt,tt,tt,tt,ff,ff,ff,ff,ff,ff,ff,ff,ff,ff] rfl rfl (one_of HT_.out (by kernel_rfl)) (by decide) (fun K hK => ?_)
 refine goes_ Try.func13 (by kernel_rfl) rfl #[.agg #[.int .i64 a0, .int .i64 a1, .int .i64 a2, .int .u64 a3, .int .i64 a4, .slice A5 l5.length c5, .int .u64 a6, .int .u64 a7, .int .u64 a8, .int .u64 a9, .int .u64 a10, .int .u64 a11, .int .u64 a12, .slice A13 l13.length c13, .slice A14 l14.length c14, .float .f64 a15]] (by rfl) rfl rfl (by (try simp only [List.map_toArray, List.map_cons, List.map_nil]); first | done | rfl) ?_
 refine (theirs_at a0 a1 a2 a3 a4 A5 c5 l5 a6 a7 a8 a9 a10 a11 a12 A13 c13 l13 A14 c14 l14 a15 _ (Kd.C_below H5.out (below_step BD.out hHeld)) (Kd.C_below H13.out (below_step BD.out hHeld)) (Kd.C_below H14.out (below_step BD.out hHeld)) HLL.out).mono ?_
 rintro e wu ⟨v_, rfl, ho_, hb⟩
 rw [← HR.out] at ho_
 obtain ⟨F13, q13, rfl⟩ := Kd.R_slice ho_
 have HO := Aside0.mk (Kd.R_reads' ho_)
 have hHe := below_step hHeld hb
 clear hHeld hb ho_
 refine ⟨_, rfl, ?_⟩
 refine hK _ _ hHe (fun hHeld => ?_)
 clear hK K hHe
 refine norm_ (a' := ?_) ?_ ?_
 rotate_left
 ·(show Act.put _ (some 52) _ = _; simp only [Act.put,zA,zB,zC,i64_w,i32_w]; rfl)
 refine one_ (i := 23) (N := some 54) #[tt,tt,tt,tt,tt,tt,tt,tt,tt,tt,tt,tt,tt,tt,tt,tt,tt,tt,tt,tt,tt,tt,tt,tt,ff,ff,ff,ff,ff,ff,ff,ff,ff] rfl rfl (one_of HT_.out (by kernel_rfl)) (by decide) (fun K hK => ?_)
 refine goes_ Try.func13 (by kernel_rfl) rfl #[.agg #[.int .i64 b0, .int .i64 b1, .int .i64 b2, .int .u64 b3, .int .i64 b4, .slice D5 m5.length e5, .int .u64 b6, .int .u64 b7, .int .u64 b8, .int .u64 b9, .int .u64 b10, .int .u64 b11, .int .u64 b12, .slice D13 m13.length e13, .slice D14 m14.length e14, .float .f64 b15]] (by rfl) rfl rfl (by (try simp only [List.map_toArray, List.map_cons, List.map_nil]); first | done | rfl) ?_
 refine (theirs_at b0 b1 b2 b3 b4 D5 e5 m5 b6 b7 b8 b9 b10 b11 b12 D13 e13 m13 D14 e14 m14 b15 _ (Kd.C_below M5.out (below_step BD.out hHeld)) (Kd.C_below M13.out (below_step BD.out hHeld)) (Kd.C_below M14.out (below_step BD.out hHeld)) HLM.out).mono ?_
 rintro e wu2 ⟨v_, rfl, ho_, hb⟩
 rw [← HS.out] at ho_
 obtain ⟨G13, p13, rfl⟩ := Kd.R_slice ho_
 have HP := Aside0.mk (Kd.R_reads' ho_)
 have HO2 := Aside0.mk (Kd.C_below HO.out.2.2 hb)
 have hHe := below_step hHeld hb
 clear hHeld hb ho_
 refine ⟨_, rfl, ?_⟩
 refine hK _ _ hHe (fun hHeld => ?_)
 clear hK K hHe
 refine norm_ (a' := ?_) ?_ ?_
 rotate_left
 ·(show Act.put _ (some 54) _ = _; simp only [Act.put,zA,zB,zC,i64_w,i32_w]; rfl)
 refine one_ (i := 24) (N := some 55) #[tt,tt,tt,tt,tt,tt,tt,tt,tt,tt,tt,tt,tt,tt,tt,tt,tt,tt,tt,tt,tt,tt,tt,tt,tt,ff,ff,ff,ff,ff,ff,ff,ff] rfl rfl (one_of HT_.out (by kernel_rfl)) (by decide) (fun K hK => ?_)
 refine goes_ Try.func12 (by kernel_rfl) rfl #[.agg #[.int .i64 a0, .int .i64 a1, .int .i64 a2, .int .u64 a3, .int .i64 a4, .slice A5 l5.length c5, .int .u64 a6, .int .u64 a7, .int .u64 a8, .int .u64 a9, .int .u64 a10, .int .u64 a11, .int .u64 a12, .slice F13 r13.length q13, .slice A14 l14.length c14, .float .f64 a15], .agg #[.int .i64 b0, .int .i64 b1, .int .i64 b2, .int .u64 b3, .int .i64 b4, .slice D5 m5.length e5, .int .u64 b6, .int .u64 b7, .int .u64 b8, .int .u64 b9, .int .u64 b10, .int .u64 b11, .int .u64 b12, .slice G13 s13.length p13, .slice D14 m14.length e14, .float .f64 b15]] (by rfl) rfl rfl (by (try simp only [List.map_toArray, List.map_cons, List.map_nil]); first | done | rfl) ?_
 refine (HSR.out _ A5 c5 F13 q13 A14 c14 D5 e5 G13 p13 D14 e14 r13 s13 HR.out HS.out (Kd.C_below H5.out (below_step BD.out hHeld)) HC5.out HO2.out HO.out.2.1 (Kd.C_below H14.out (below_step BD.out hHeld)) HC14.out (Kd.C_below M5.out (below_step BD.out hHeld)) ME5.out HP.out.2.2 HP.out.2.1 (Kd.C_below M14.out (below_step BD.out hHeld)) ME14.out).mono ?_
 rintro e w' ⟨rfl, hb⟩
 have hHe := below_step hHeld hb
 clear hHeld hb
 refine ⟨_, rfl, ?_⟩
 refine hK _ _ hHe (fun hHeld => ?_)
 clear hK K hHe
 refine norm_ (a' := ?_) ?_ ?_
 rotate_left
 ·(show Act.put _ (some 55) _ = _; simp only [Act.put,zA,zB,zC,i64_w,i32_w]; rfl)
 clear HO HO2 HP
 refine pure_ (i := 25) (N := some 56) (v := .bool true) (a' := ?_) #[tt,tt,tt,tt,tt,tt,tt,tt,tt,tt,tt,tt,tt,tt,tt,tt,tt,tt,tt,tt,tt,tt,tt,tt,tt,tt,ff,ff,ff,ff,ff,ff,ff] rfl rfl (any_of HT_.out (by kernel_rfl)) (fun _ _ _ h => h) (Or.inl ⟨by rfl, ?_⟩) ?_ ?_
 ·(intro w'; cases sv <;> (go_simp; first | done | rfl | simp))
 rotate_left
 ·(simp only [Act.put,zA,zB,zC,i64_w,i32_w]; rfl)
 refine pure_ (i := 26) (N := some 57) (v := .bool true) (a' := ?_) #[tt,tt,tt,tt,tt,tt,tt,tt,tt,tt,tt,tt,tt,tt,tt,tt,tt,tt,tt,tt,tt,tt,tt,tt,tt,tt,tt,ff,ff,ff,ff,ff,ff] rfl rfl (any_of HT_.out (by kernel_rfl)) (fun _ _ _ h => h) (Or.inl ⟨by rfl, ?_⟩) ?_ ?_
 ·(intro w'; go_simp; first | done | rfl | simp)
 rotate_left
 ·(simp only [Act.put,zA,zB,zC,i64_w,i32_w]; rfl)
 refine pure_ (i := 27) (N := some 58) (v := .bool true) (a' := ?_) #[tt,tt,tt,tt,tt,tt,tt,tt,tt,tt,tt,tt,tt,tt,tt,tt,tt,tt,tt,tt,tt,tt,tt,tt,tt,tt,tt,tt,ff,ff,ff,ff,ff] rfl rfl (any_of HT_.out (by kernel_rfl)) (fun _ _ _ h => h) (Or.inl ⟨by rfl, ?_⟩) ?_ ?_
 ·(intro w'; go_simp; first | done | rfl | simp)
 rotate_left
 ·(simp only [Act.put,zA,zB,zC,i64_w,i32_w]; rfl)
 refine take_ (i := 28) (N := some 59) (v := .agg #[.int .i64 a0, .int .i64 a1, .int .i64 a2, .int .u64 a3, .int .i64 a4, .slice A5 l5.length c5, .int .u64 a6, .int .u64 a7, .int .u64 a8, .int .u64 a9, .int .u64 a10, .int .u64 a11, .int .u64 a12, .slice A13 l13.length c13, .slice A14 l14.length c14, .float .f64 a15]) (a' := ?_) #[tt,tt,tt,tt,tt,tt,tt,tt,tt,tt,tt,tt,tt,tt,tt,tt,tt,tt,tt,tt,tt,tt,tt,tt,tt,tt,tt,tt,tt,ff,ff,ff,ff] rfl rfl (take_ofW HT_.out HW_.out (by kernel_rfl)) (fun _ _ _ h => h) (Or.inl ⟨by rfl, ?_⟩) hHeld ?_ ?_
 ·(intro w' s0; exact enc_yields32 _ rfl g1 rfl 32 #[.int .i64 a0, .int .i64 a1, .int .i64 a2, .int .u64 a3, .int .i64 a4, .slice A5 l5.length c5, .int .u64 a6, .int .u64 a7, .int .u64 a8, .int .u64 a9, .int .u64 a10, .int .u64 a11, .int .u64 a12, .slice A13 l13.length c13, .slice A14 l14.length c14, .float .f64 a15] (0, 0) (blk_below K1d.out s0) si32)
 rotate_left
 ·(simp only [Act.put,zA,zB,zC,i64_w,i32_w]; rfl)
 refine take_ (i := 29) (N := some 60) (v := .agg #[.int .i64 a0, .int .i64 a1, .int .i64 a2, .int .u64 a3, .int .i64 a4, .slice A5 l5.length c5, .int .u64 a6, .int .u64 a7, .int .u64 a8, .int .u64 a9, .int .u64 a10, .int .u64 a11, .int .u64 a12, .slice A13 l13.length c13, .slice A14 l14.length c14, .float .f64 a15]) (a' := ?_) #[tt,tt,tt,tt,tt,tt,tt,tt,tt,tt,tt,tt,tt,tt,tt,tt,tt,tt,tt,tt,tt,tt,tt,tt,tt,tt,tt,tt,tt,tt,ff,ff,ff] rfl rfl (take_ofW HT_.out HW_.out (by kernel_rfl)) (fun _ _ _ h => h) (Or.inl ⟨by rfl, ?_⟩) hHeld ?_ ?_
 ·(intro w' s0; exact enc_yields32 _ rfl g1 rfl 32 #[.int .i64 a0, .int .i64 a1, .int .i64 a2, .int .u64 a3, .int .i64 a4, .slice A5 l5.length c5, .int .u64 a6, .int .u64 a7, .int .u64 a8, .int .u64 a9, .int .u64 a10, .int .u64 a11, .int .u64 a12, .slice A13 l13.length c13, .slice A14 l14.length c14, .float .f64 a15] (0, 0) (blk_below K1d.out s0) si32)
 rotate_left
 ·(simp only [Act.put,zA,zB,zC,i64_w,i32_w]; rfl)
 refine one_ (i := 30) (N := some 61) #[tt,tt,tt,tt,tt,tt,tt,tt,tt,tt,tt,tt,tt,tt,tt,tt,tt,tt,tt,tt,tt,tt,tt,tt,tt,tt,tt,tt,tt,tt,tt,ff,ff] rfl rfl (one_of HT_.out (by kernel_rfl)) (by decide) (fun K hK => ?_)
 refine goes_ Try.func21 (by kernel_rfl) rfl #[.agg #[.int .i64 a0, .int .i64 a1, .int .i64 a2, .int .u64 a3, .int .i64 a4, .slice A5 l5.length c5, .int .u64 a6, .int .u64 a7, .int .u64 a8, .int .u64 a9, .int .u64 a10, .int .u64 a11, .int .u64 a12, .slice A13 l13.length c13, .slice A14 l14.length c14, .float .f64 a15], .agg #[.int .i64 a0, .int .i64 a1, .int .i64 a2, .int .u64 a3, .int .i64 a4, .slice A5 l5.length c5, .int .u64 a6, .int .u64 a7, .int .u64 a8, .int .u64 a9, .int .u64 a10, .int .u64 a11, .int .u64 a12, .slice A13 l13.length c13, .slice A14 l14.length c14, .float .f64 a15]] (by rfl) rfl rfl (by (try simp only [List.map_toArray, List.map_cons, List.map_nil]); first | done | rfl) ?_
 refine (same_one a0 a1 a2 a3 a4 A5 c5 l5 a6 a7 a8 a9 a10 a11 a12 A13 c13 l13 A14 c14 l14 a15 _ (Kd.C_below H5.out (below_step BD.out hHeld)) HC5.out (Kd.C_below H13.out (below_step BD.out hHeld)) HC13.out (Kd.C_below H14.out (below_step BD.out hHeld)) HC14.out).mono ?_
 rintro e w' ⟨rfl, hb⟩
 have hHe := below_step hHeld hb
 clear hHeld hb
 refine ⟨_, rfl, ?_⟩
 refine hK _ _ hHe (fun hHeld => ?_)
 clear hK K hHe
 refine norm_ (a' := ?_) ?_ ?_
 rotate_left
 ·(show Act.put _ (some 61) _ = _; simp only [Act.put,zA,zB,zC,i64_w,i32_w]; rfl)
 refine pure_ (i := 31) (N := some 62) (v := .bool true) (a' := ?_) #[tt,tt,tt,tt,tt,tt,tt,tt,tt,tt,tt,tt,tt,tt,tt,tt,tt,tt,tt,tt,tt,tt,tt,tt,tt,tt,tt,tt,tt,tt,tt,tt,ff] rfl rfl (any_of HT_.out (by kernel_rfl)) (fun _ _ _ h => h) (Or.inl ⟨by rfl, ?_⟩) ?_ ?_
 ·(intro w'; go_simp; first | done | rfl | simp)
 rotate_left
 ·(simp only [Act.put,zA,zB,zC,i64_w,i32_w]; rfl)
 refine pure_ (i := 32) (N := some 4) (v := .bool true) (a' := ?_) #[tt,tt,tt,tt,tt,tt,tt,tt,tt,tt,tt,tt,tt,tt,tt,tt,tt,tt,tt,tt,tt,tt,tt,tt,tt,tt,tt,tt,tt,tt,tt,tt,tt] rfl rfl (any_of HT_.out (by kernel_rfl)) (fun _ _ _ h => h) (Or.inl ⟨by rfl, ?_⟩) ?_ ?_
 ·(intro w'; go_simp; first | done | rfl | simp)
 rotate_left
 ·(simp only [Act.put,zA,zB,zC,i64_w,i32_w]; rfl)
 refine done_ (done_of HT_.out (by kernel_rfl)) ?_
 have BE := Aside0.mk (below_step BD.out hHeld)
 clear HT_ HW_ hHeld
 go_wp2
 go_ret
 exact ⟨rfl, BE.out⟩
end Go.Proofs.Ytondgoabnmgcaaa.B
end
section
/- By hand: LetterEncodes: the ways joined, for the row (printed by encr.py). -/
namespace Go.Proofs.Ytondgoabnmgcaaa.R
open Go.RowKit Go.Proofs.Ytondgoabnmgcaaa.B Go.Proofs.YtondgoabnmgcaaaW.PrintWords Go.Proofs.YtondgoabnmgcaaaW.PrintLast Go.Proofs.YtondgoabnmgcaaaW.PrintMore
open Go.Proofs.Ytondgoabnmgcaaa.Pure (heavyB u64_wf)
theorem esum_same : ∀ k, (∀ x0 x3 x4, conventicleref02_Sum.l0 k x0 x3 x4 = Go.Proofs.YtondgoabnmgcaaaG.B.conventicleref02_Sum.l0 k x0 x3 x4) ∧ (∀ x0 x3 x4 x5, conventicleref02_Sum.l1 k x0 x3 x4 x5 = Go.Proofs.YtondgoabnmgcaaaG.B.conventicleref02_Sum.l1 k x0 x3 x4 x5)
  | 0 => ⟨fun _ _ _ => rfl, fun _ _ _ _ => rfl⟩
  | k + 1 => by
    obtain ⟨h0, h1⟩ := esum_same k
    have hs : ∀ x, conventicleref02_Step.f x = Go.Proofs.YtondgoabnmgcaaaG.B.conventicleref02_Step.f x := fun _ => rfl
    refine ⟨fun x0 x3 x4 => ?_, fun x0 x3 x4 x5 => ?_⟩
    · rw [conventicleref02_Sum.l0, Go.Proofs.YtondgoabnmgcaaaG.B.conventicleref02_Sum.l0, h1]
    · rw [conventicleref02_Sum.l1, Go.Proofs.YtondgoabnmgcaaaG.B.conventicleref02_Sum.l1, h0, hs]
      congr 2
      funext y
      exact h1 _ _ _ _
theorem eseal_is (s : ByteArray) (hs : s.size ≤ 4000) : conventicleref02_Seal.f 40001 s = some (sealS s) := by
  have h := Go.Proofs.YtondgoabnmgcaaaG.Pure.rseal_run s hs 0
  have e : conventicleref02_Seal.f 40001 s = Go.Proofs.YtondgoabnmgcaaaG.B.conventicleref02_Seal.f 40001 s := by
    unfold conventicleref02_Seal.f Go.Proofs.YtondgoabnmgcaaaG.B.conventicleref02_Seal.f conventicleref02_Sum.f Go.Proofs.YtondgoabnmgcaaaG.B.conventicleref02_Sum.f
    rw [(esum_same 40001).1]
    rfl
  rw [e, h]
  rfl
theorem efrom_to (l : List S53) : (l.map to90).map from90 = l := by
  rw [List.map_map]
  conv => rhs; rw [← List.map_id l]
  exact List.map_congr_left (fun _ _ => rfl)
theorem enc_row (x : S32) (A5 : Option Addr) (c5 : Nat) (A13 : Option Addr) (c13 : Nat) (A14 : Option Addr) (c14 : Nat) (y : S32) (D5 : Option Addr) (e5 : Nat) (D13 : Option Addr) (e13 : Nat) (D14 : Option Addr) (e14 : Nat) (w : World)
    (hr5 : Kd.C k70 w A5 x.f5.length x.f5) (hc5 : x.f5.length ≤ c5) (hr13 : Kd.C k53 w A13 x.f11.length x.f11) (hc13 : x.f11.length ≤ c13) (hr14 : Kd.C k77 w A14 x.f12.length x.f12) (hc14 : x.f12.length ≤ c14)
    (ms5 : Kd.C k70 w D5 y.f5.length y.f5) (me5 : y.f5.length ≤ e5) (ms13 : Kd.C k53 w D13 y.f11.length y.f11) (me13 : y.f11.length ≤ e13) (ms14 : Kd.C k77 w D14 y.f12.length y.f12) (me14 : y.f12.length ≤ e14)
    (hW : wf32 x) (hW2 : wf32 y) :
    Calls Try.prog 7 #[.agg #[.int .i64 x.f0, .int .i64 x.f1, .int .i64 x.f2, .int .u64 x.f3, .int .i64 x.f4, .slice A5 x.f5.length c5, .int .u64 x.f6.f0, .int .u64 x.f6.f1, .int .u64 x.f7, .int .u64 x.f8, .int .u64 x.f9.f0, .int .u64 x.f9.f1, .int .u64 x.f10, .slice A13 x.f11.length c13, .slice A14 x.f12.length c14, .float .f64 x.f13], .agg #[.int .i64 y.f0, .int .i64 y.f1, .int .i64 y.f2, .int .u64 y.f3, .int .i64 y.f4, .slice D5 y.f5.length e5, .int .u64 y.f6.f0, .int .u64 y.f6.f1, .int .u64 y.f7, .int .u64 y.f8, .int .u64 y.f9.f0, .int .u64 y.f9.f1, .int .u64 y.f10, .slice D13 y.f11.length e13, .slice D14 y.f12.length e14, .float .f64 y.f13]] w fun e w' => e = .returned (.bool true) ∧ Below w.heap.size w w' := by
  obtain ⟨a0, a1, a2, a3, a4, l5, ⟨a6, a7⟩, a8, a9, ⟨a10, a11⟩, a12, l13, l14, a15⟩ := x
  obtain ⟨b0, b1, b2, b3, b4, m5, ⟨b6, b7⟩, b8, b9, ⟨b10, b11⟩, b12, m13, m14, b15⟩ := y
  obtain ⟨_, _, _, y3, _, y5, ⟨y6, y7⟩, y8, y9, ⟨y10, y11⟩, y12, y13, y14, y15⟩ := hW
  obtain ⟨_, _, _, _, _, _, ⟨_, _⟩, _, _, ⟨_, _⟩, _, z13, _, _⟩ := hW2
  dsimp only at *
  have hok : okL a0 a1 a2 a3 a4 l5 a6 a7 a8 a9 a10 a11 a12 l13 l14 a15 = true := by
    simp only [okL, Bool.and_eq_true, List.all_eq_true]
    exact ⟨u64_wf y3, u64_wf y6, u64_wf y7, u64_wf y8, u64_wf y9, u64_wf y10, u64_wf y11, u64_wf y12, fun u hu => u64_wf (y5.2 u hu).2.1, fun p hp => ⟨u64_wf (y13.2 p hp).1, u64_wf (y13.2 p hp).2.2.1⟩, fun q hq => ⟨u64_wf (y14.2 q hq).1, u64_wf (y14.2 q hq).2⟩⟩
  cases hh : heavyB l5 l13 l14
  · cases hh2 : heavyB m5 m13 m14
    · have hb : l5.length ≤ 1000 ∧ l13.length ≤ 1000 ∧ l14.length ≤ 1000 := by have := hh; simp [heavyB] at this; omega
      have hwx : wfX l14 := fun q hq => by
        have h0 := u64B_is (u64_wf (y14.2 q hq).1)
        have h1 := u64B_is (u64_wf (y14.2 q hq).2)
        exact ⟨h0.1, h0.2, h1.1, h1.2⟩
      have hM := ref15_may a0 a1 a2 a3 a4 l5 a6 a7 a8 a9 a10 a11 a12 (l13.map to90) l14 a15 (by rw [List.length_map]; omega) (by omega) (by omega) hwx (l5.length + (l13.map to90).length + l14.length + 4) (by omega)
      rw [efrom_to] at hM
      generalize l5.length + (l13.map to90).length + l14.length + 4 = KM at hM
      cases hmay : mayL a0 a1 a2 a4 l5 l13 l14 a15
      · rw [hmay] at hM
        refine enc_walk a0 a1 a2 a3 a4 A5 c5 l5 a6 a7 a8 a9 a10 a11 a12 A13 c13 l13 A14 c14 l14 a15 b0 b1 b2 b3 b4 D5 e5 m5 b6 b7 b8 b9 b10 b11 b12 D13 e13 m13 D14 e14 m14 b15 w hr5 hc5 hr13 hc13 hr14 hc14 y13.1 ms5 me5 ms13 me13 ms14 me14 z13.1 hh hh2 (l13.map to90) rfl ⟨#[]⟩ 1 false KM ?_ ?_ hM ?_
        · unfold letter_Encode.f; rw [if_pos hmay]
        · unfold letter_May.f; rw [hmay]
        · intro w A5 c5 A13 c13 A14 c14 hr5 hc5 hr13 hc13 hr14 hc14
          exact renc_no a0 a1 a2 a3 a4 A5 c5 l5 a6 a7 a8 a9 a10 a11 a12 A13 c13 (l13.map to90) A14 c14 l14 a15 w hr5 hc5 hr13 hc13 hr14 hc14 KM hM
      · rw [hmay] at hM
        have HF := fine a0 a1 a2 a3 a4 l5 a6 a7 a8 a9 a10 a11 a12 l13 l14 a15 hmay hok
        have hsz : (strOfNums (encL a0 a1 a2 a3 a4 l5 a6 a7 a8 a9 a10 a11 a12 l13 l14 a15)).size ≤ 1000 := by
          rw [strOfNums_size, Go.Proofs.Ytondgoabnmgcaaa.Pure.len_encL]
          have := Go.Proofs.Ytondgoabnmgcaaa.Pure.sumP_le l13 (fun p hp => by have := (HF.u13 p hp).2.2.2; omega)
          have h5 := HF.n5
          have h13 := HF.n13
          have h14 := HF.n14
          omega
        refine enc_walk a0 a1 a2 a3 a4 A5 c5 l5 a6 a7 a8 a9 a10 a11 a12 A13 c13 l13 A14 c14 l14 a15 b0 b1 b2 b3 b4 D5 e5 m5 b6 b7 b8 b9 b10 b11 b12 D13 e13 m13 D14 e14 m14 b15 w hr5 hc5 hr13 hc13 hr14 hc14 y13.1 ms5 me5 ms13 me13 ms14 me14 z13.1 hh hh2 (l13.map to90) rfl (sealS (strOfNums (encL a0 a1 a2 a3 a4 l5 a6 a7 a8 a9 a10 a11 a12 l13 l14 a15))) 0 true KM ?_ ?_ hM ?_
        · unfold letter_Encode.f; rw [if_neg (by rw [hmay]; decide), if_pos hok]
        · unfold letter_May.f; rw [hmay]
        · intro w A5 c5 A13 c13 A14 c14 hr5 hc5 hr13 hc13 hr14 hc14
          refine renc_ok a0 a1 a2 a3 a4 A5 c5 l5 a6 a7 a8 a9 a10 a11 a12 A13 c13 (l13.map to90) A14 c14 l14 a15 w hr5 hc5 hr13 hc13 hr14 hc14 KM hM HF.r0 HF.r1 HF.r2 HF.r3 HF.r4 HF.r6 HF.r7 HF.r8 HF.r9 HF.r10 HF.r11 HF.r12 HF.n5 (by rw [List.length_map]; exact HF.n13) HF.n14 ?_ HF.u5 HF.u14 y15 _ 40001 ?_
          · intro q hq
            obtain ⟨p, hp, rfl⟩ := List.mem_map.1 hq
            have h := HF.u13 p hp
            exact ⟨h.1, h.2.1, h.2.2.1, Int.ofNat_le.1 h.2.2.2⟩
          · rw [efrom_to]
            exact eseal_is _ (by omega)
    · exact enc_heavy2 a0 a1 a2 a3 a4 A5 c5 l5 a6 a7 a8 a9 a10 a11 a12 A13 c13 l13 A14 c14 l14 a15 b0 b1 b2 b3 b4 D5 e5 m5 b6 b7 b8 b9 b10 b11 b12 D13 e13 m13 D14 e14 m14 b15 w hr5 hc5 hr13 hc13 hr14 hc14 y13.1 ms5 me5 ms13 me13 ms14 me14 z13.1 hh hh2
  · exact enc_heavy1 a0 a1 a2 a3 a4 A5 c5 l5 a6 a7 a8 a9 a10 a11 a12 A13 c13 l13 A14 c14 l14 a15 b0 b1 b2 b3 b4 D5 e5 m5 b6 b7 b8 b9 b10 b11 b12 D13 e13 m13 D14 e14 m14 b15 w hr5 hc5 hr13 hc13 hr14 hc14 y13.1 ms5 me5 ms13 me13 ms14 me14 z13.1 hh
end Go.Proofs.Ytondgoabnmgcaaa.R
end
