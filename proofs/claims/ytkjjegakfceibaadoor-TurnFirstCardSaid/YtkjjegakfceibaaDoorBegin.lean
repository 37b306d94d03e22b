/- By hand: Begin of a turn that is alone (printed by begin.py). -/
import Derived.Test.YtkjjegakfceibaaDoorProm
namespace Go.Proofs.YtkjjegakfceibaaDoor.B
open Go.RowKit Go.Proofs.YtkjjegakfceibaaDoorW.PrintWords Go.Proofs.YtkjjegakfceibaaDoorW.PrintLast Go.Proofs.YtkjjegakfceibaaDoorW.PrintMore
set_option linter.unusedSimpArgs false
set_option linter.unusedVariables false
attribute [local go_sem] max2_int min2_int max_two min_two max_three min_three max_four min_four
theorem wish_yields {o : Oper} {a : Act} {w : World} {x0 x1 x2 x3 : Operand} (ho : o.op = .build 79 #[(0, x0), (1, x1), (2, x2), (3, x3)]) (b sn lv jn : Int)
    (h0 : a.eval x0 = .int .u64 b) (h1 : a.eval x1 = .int .u64 sn) (h2 : a.eval x2 = .int .u64 lv) (h3 : a.eval x3 = .int .u64 jn) :
    (execOp a.eval o).run Tryd.prog w = .ok (.value (.agg (wishC b sn lv jn).toArray)) w := by
  unfold execOp
  have e : (Array.map (fun q : Nat × Operand => (q.1, a.eval q.2)) #[(0, x0), (1, x1), (2, x2), (3, x3)]) = #[(0, .int .u64 b), (1, .int .u64 sn), (2, .int .u64 lv), (3, .int .u64 jn)] := by simp [h0, h1, h2, h3]
  simp only [ho, Sem.run_bind]
  rw [show (Instr.build 79 (Array.map (fun x : Nat × Operand => (x.1, a.eval x.2)) #[(0, x0), (1, x1), (2, x2), (3, x3)])).run Tryd.prog w = .ok (.agg (wishC b sn lv jn).toArray) w from run_build w 79 _ _ (by rw [e]; exact built_W b sn lv jn)]
  rfl
theorem there_T {w : World} {g : Nat} {s : TS} (h : w.heap[g]? = some (.cells (tc s) 81 (0, 0))) : w.there g 9 202 := fun j hj => by
  refine ⟨?_, blk_frozen h _⟩
  rw [blk_cell h]
  rw [Array.getElem?_eq_getElem (by rw [tc_size]; omega)]
  rfl
theorem wish_stores {o : Oper} {a : Act} {w : World} {x y : Operand} (ho : o.op = .store 79 x y) (g : Nat) (s : TS) (b sn lv jn : Int) (hx : a.eval x = .pointer (some ⟨g, 9, none⟩)) (hy : a.eval y = .agg (wishC b sn lv jn).toArray)
    (h : w.heap[g]? = some (.cells (tc s) 81 (0, 0))) : (execOp a.eval o).run Tryd.prog w = .ok .skip (w.setCells g 9 (wishC b sn lv jn)) := by
  unfold execOp
  have hr := run_storeVar_mid (P := Tryd.prog) w g 9 79 (wishC b sn lv jn).toArray (by rw [wish_size]; exact there_T h) (by rw [wish_size]; exact si79) (wish_one b sn lv jn)
  simp only [ho, hx, hy, Instr.storeAt, Instr.sureAddr, Sem.run_bind, Sem.run_pure, Result.andThen_ok, hr]
set_option maxRecDepth 100000 in
set_option maxHeartbeats 4000000 in
theorem begin_me (w : World) (g : Nat) (s : TS) (live jn r b lv : Int) (S : TS) (l1 : Int) (xs : List LT) (hT : TB w g s) (hfr : s.fr = false) (hdone : s.done = false) (htop : s.top = 0) (hwb : s.wb = 0) (hseen : s.seen = 0) (hM : band_Major.f live s.vm = some true) (hNum : ballot_Number.f 1 s.me = some (b, 0)) (hW : band_With.f live s.me = some lv)
    (hTab : TabT w) (hme : S.me = s.me) (hvm : S.vm = s.vm) (hle1 : band_Less.f s.vm S.me = some l1) (hli1 : band_List.f l1 = some []) (hlen : xs.length ≤ 64)
    (hH : HearTo g { s with fr := true, rc := r, wb := b, seen := s.seen, live := lv, joins := jn, heard := 0, far := 0, asked := false, wm := 0, wc := 0, taken := 0 } S #[.int .i64 4, .int .i64 s.me, .int .i64 s.me, .int .u64 0, .int .i64 0, .slice none 0 0, .int .u64 s.vi, .int .u64 s.vm, .int .u64 b, .int .u64 0, .int .u64 0, .int .u64 0, .int .u64 0, .slice none 0 0, .slice none 0 0, .float .f64 0] xs) :
    Calls Tryd.prog 16 #[.pointer (some ⟨g, 0, none⟩), .int .u64 live, .int .u64 jn, .int .u64 r] w fun e w' => ∃ v, e = .returned (.tuple #[v, .int .i64 0]) ∧ RQ w g S xs v w' := by
  have KT := Aside0.mk hT
  clear hT
  have Ahfr := Aside0.mk hfr
  have Ahdone := Aside0.mk hdone
  have Ahtop := Aside0.mk htop
  have Ahwb := Aside0.mk hwb
  have Ahseen := Aside0.mk hseen
  have AhM := Aside0.mk hM
  have AhNum := Aside0.mk hNum
  have AhW := Aside0.mk hW
  have AhTab := Aside0.mk hTab
  have Ahme := Aside0.mk hme
  have Ahvm := Aside0.mk hvm
  have Ahle1 := Aside0.mk hle1
  have Ahli1 := Aside0.mk hli1
  have Ahlen := Aside0.mk hlen
  have AhH := Aside0.mk hH
  have KT0 := KT
  have B := Aside0.mk (KeepBut.refl w g none)
  have HO : Aside0 (ballot_Owner.f 0 = some (0, 0, false)) := ⟨rfl⟩
  have xdone := ((blk_cell KT.out 211).trans (tc_done s)).trans (by rw [hdone])
  have xvm := (blk_cell KT.out 6).trans (tc_vm s)
  clear hfr hdone htop hwb hseen hM hNum hW hTab hme hvm hle1 hli1 hlen hH
  go_enter Tryd.func16, Tryd.ntmps16
  go_wp2_with (go_at_call 34; refine (band_Major.calls live s.vm true _ AhM.out).mono ?_; rintro e w1 ⟨rfl, hd⟩; replace KT := Aside0.mk (blk_below KT.out (Drawn0.below hd)); replace B := Aside0.mk (B.out.trans (KeepBut.of_below (Drawn0.below hd) g none) (.inl rfl)); clear hd xdone xvm)
  refine start_ (n := 23) (S := fun w' => Below w1.drew.heap.size w1.drew w') (ds := []) #[false, false, false, false, false, false, false, false, false, false, false, false, false, false, false, false, false, false, false, false, false, false, false] (by kernel_rfl) rfl rfl (Below.refl _ _) (fun hHeld => ?_)
  have KTd := Aside0.mk (blk_drew KT.out)
  have BD := Aside0.mk (keep_drew B.out)
  clear KT B
  generalize w1.drew = wd at KTd BD hHeld ⊢
  refine pure_ (i := 0) (N := some 30) (v := ?_) (a' := ?_) #[true, false, false, false, false, false, false, false, false, false, false, false, false, false, false, false, false, false, false, false, false, false, false] rfl rfl (by kernel_rfl) (fun _ _ _ h => h) (Or.inl ⟨by rfl, ?_⟩) ?_ ?_
  rotate_left
  · (intro w'; go_simp; first | done | with_reducible rfl | rfl | (simp [Instr.field, go_sem]; rfl))
  rotate_left
  · (simp only [Act.put, List.setIfInBounds_toArray, List.set_cons_zero, List.set_cons_succ, i64_w, i32_w]; rfl)
  refine pure_ (i := 1) (N := some 31) (v := ?_) (a' := ?_) #[true, true, false, false, false, false, false, false, false, false, false, false, false, false, false, false, false, false, false, false, false, false, false] rfl rfl (by kernel_rfl) (fun _ _ _ h => h) (Or.inl ⟨by rfl, ?_⟩) ?_ ?_
  rotate_left
  · (intro w'; go_simp; first | done | with_reducible rfl | rfl | (simp [Instr.field, go_sem]; rfl))
  rotate_left
  · (simp only [Act.put, List.setIfInBounds_toArray, List.set_cons_zero, List.set_cons_succ, i64_w, i32_w]; rfl)
  refine pure_ (i := 2) (N := some 32) (v := ?_) (a' := ?_) #[true, true, true, false, false, false, false, false, false, false, false, false, false, false, false, false, false, false, false, false, false, false, false] rfl rfl (by kernel_rfl) (fun _ _ _ h => h) (Or.inl ⟨by rfl, ?_⟩) ?_ ?_
  rotate_left
  · (intro w'; go_simp; first | done | with_reducible rfl | rfl | (simp [Instr.field, go_sem]; rfl))
  rotate_left
  · (simp only [Act.put, List.setIfInBounds_toArray, List.set_cons_zero, List.set_cons_succ, i64_w, i32_w]; rfl)
  refine pure_ (i := 4) (N := some 34) (v := ?_) (a' := ?_) #[true, true, true, false, true, false, false, false, false, false, false, false, false, false, false, false, false, false, false, false, false, false, false] rfl rfl (by kernel_rfl) (fun _ _ _ h => h) (Or.inl ⟨by rfl, ?_⟩) ?_ ?_
  rotate_left
  · (intro w'; go_simp; first | done | with_reducible rfl | rfl | (simp [Instr.field, go_sem]; rfl))
  rotate_left
  · (simp only [Act.put, List.setIfInBounds_toArray, List.set_cons_zero, List.set_cons_succ, i64_w, i32_w]; rfl)
  refine pure_ (i := 5) (N := some 35) (v := ?_) (a' := ?_) #[true, true, true, false, true, true, false, false, false, false, false, false, false, false, false, false, false, false, false, false, false, false, false] rfl rfl (by kernel_rfl) (fun _ _ _ h => h) (Or.inl ⟨by rfl, ?_⟩) ?_ ?_
  rotate_left
  · (intro w'; go_simp; first | done | with_reducible rfl | rfl | (simp [Instr.field, go_sem]; rfl))
  rotate_left
  · (simp only [Act.put, List.setIfInBounds_toArray, List.set_cons_zero, List.set_cons_succ, i64_w, i32_w]; rfl)
  refine pure_ (i := 6) (N := some 36) (v := ?_) (a' := ?_) #[true, true, true, false, true, true, true, false, false, false, false, false, false, false, false, false, false, false, false, false, false, false, false] rfl rfl (by kernel_rfl) (fun _ _ _ h => h) (Or.inl ⟨by rfl, ?_⟩) ?_ ?_
  rotate_left
  · (intro w'; go_simp; first | done | with_reducible rfl | rfl | (simp [Instr.field, go_sem]; rfl))
  rotate_left
  · (simp only [Act.put, List.setIfInBounds_toArray, List.set_cons_zero, List.set_cons_succ, i64_w, i32_w]; rfl)
  refine pure_ (i := 7) (N := some 37) (v := ?_) (a' := ?_) #[true, true, true, false, true, true, true, true, false, false, false, false, false, false, false, false, false, false, false, false, false, false, false] rfl rfl (by kernel_rfl) (fun _ _ _ h => h) (Or.inl ⟨by rfl, ?_⟩) ?_ ?_
  rotate_left
  · (intro w'; go_simp; first | done | with_reducible rfl | rfl | (simp [Instr.field, go_sem]; rfl))
  rotate_left
  · (simp only [Act.put, List.setIfInBounds_toArray, List.set_cons_zero, List.set_cons_succ, i64_w, i32_w]; rfl)
  refine take_ (i := 8) (N := some 38) (v := ?_) (a' := ?_) #[true, true, true, false, true, true, true, true, true, false, false, false, false, false, false, false, false, false, false, false, false, false, false] rfl rfl (by kernel_rfl) (fun _ _ _ h => h) (Or.inl ⟨by rfl, ?_⟩) hHeld ?_ ?_
  rotate_left
  · (intro w' s0; have x0 := ((blk_cell (blk_below KTd.out s0) 9).trans (tc_wb s)).trans (show some (Value.int .u64 s.wb) = some (Value.int .u64 0) by rw [Ahwb.out]); go_simp; first | done | with_reducible rfl | rfl | (simp [Instr.field, go_sem]; rfl))
  rotate_left
  · (simp only [Act.put, List.setIfInBounds_toArray, List.set_cons_zero, List.set_cons_succ, i64_w, i32_w]; rfl)
  refine pure_ (i := 9) (N := some 39) (v := ?_) (a' := ?_) #[true, true, true, false, true, true, true, true, true, true, false, false, false, false, false, false, false, false, false, false, false, false, false] rfl rfl (by kernel_rfl) (fun _ _ _ h => h) (Or.inl ⟨by rfl, ?_⟩) ?_ ?_
  rotate_left
  · (intro w'; go_simp; first | done | with_reducible rfl | rfl | (simp [Instr.field, go_sem]; rfl))
  rotate_left
  · (simp only [Act.put, List.setIfInBounds_toArray, List.set_cons_zero, List.set_cons_succ, i64_w, i32_w]; rfl)
  refine pure_ (i := 10) (N := some 40) (v := ?_) (a' := ?_) #[true, true, true, false, true, true, true, true, true, true, true, false, false, false, false, false, false, false, false, false, false, false, false] rfl rfl (by kernel_rfl) (fun _ _ _ h => h) (Or.inl ⟨by rfl, ?_⟩) ?_ ?_
  rotate_left
  · (intro w'; go_simp; first | done | with_reducible rfl | rfl | (simp [Instr.field, go_sem]; rfl))
  rotate_left
  · (simp only [Act.put, List.setIfInBounds_toArray, List.set_cons_zero, List.set_cons_succ, i64_w, i32_w]; rfl)
  refine pure_ (i := 11) (N := some 41) (v := ?_) (a' := ?_) #[true, true, true, false, true, true, true, true, true, true, true, true, false, false, false, false, false, false, false, false, false, false, false] rfl rfl (by kernel_rfl) (fun _ _ _ h => h) (Or.inl ⟨by rfl, ?_⟩) ?_ ?_
  rotate_left
  · (intro w'; go_simp; first | done | with_reducible rfl | rfl | (simp [Instr.field, go_sem]; rfl))
  rotate_left
  · (simp only [Act.put, List.setIfInBounds_toArray, List.set_cons_zero, List.set_cons_succ, i64_w, i32_w]; rfl)
  refine pure_ (i := 12) (N := some 42) (v := ?_) (a' := ?_) #[true, true, true, false, true, true, true, true, true, true, true, true, true, false, false, false, false, false, false, false, false, false, false] rfl rfl (by kernel_rfl) (fun _ _ _ h => h) (Or.inl ⟨by rfl, ?_⟩) ?_ ?_
  rotate_left
  · (intro w'; go_simp; first | done | with_reducible rfl | rfl | (simp [Instr.field, go_sem]; rfl))
  rotate_left
  · (simp only [Act.put, List.setIfInBounds_toArray, List.set_cons_zero, List.set_cons_succ, i64_w, i32_w]; rfl)
  refine take_ (i := 13) (N := some 43) (v := ?_) (a' := ?_) #[true, true, true, false, true, true, true, true, true, true, true, true, true, true, false, false, false, false, false, false, false, false, false] rfl rfl (by kernel_rfl) (fun _ _ _ h => h) (Or.inl ⟨by rfl, ?_⟩) hHeld ?_ ?_
  rotate_left
  · (intro w' s0; have x0 := ((blk_cell (blk_below KTd.out s0) 10).trans (tc_seen s)).trans (show some (Value.int .u64 s.seen) = some (Value.int .u64 0) by rw [Ahseen.out]); go_simp; first | done | with_reducible rfl | rfl | (simp [Instr.field, go_sem]; rfl))
  rotate_left
  · (simp only [Act.put, List.setIfInBounds_toArray, List.set_cons_zero, List.set_cons_succ, i64_w, i32_w]; rfl)
  refine one_ (i := 3) (N := some 33) #[true, true, true, true, true, true, true, true, true, true, true, true, true, true, false, false, false, false, false, false, false, false, false] rfl rfl (by kernel_rfl) (by decide) (fun K hK => ?_)
  refine goes_ Tryd.func36 (by kernel_rfl) rfl #[.pointer (some ⟨g, 0, none⟩)] (by rfl) rfl rfl (by (try simp only [List.map_toArray, List.map_cons, List.map_nil]); first | done | rfl) ?_
  refine (top_at _ g s (blk_below KTd.out hHeld)).mono ?_
  rintro e w2 ⟨rfl, hb⟩
  rw [Ahtop.out]
  have hHe := below_step hHeld hb
  clear hHeld hb
  refine ⟨_, rfl, ?_⟩
  refine hK _ _ hHe (fun hHeld => ?_)
  clear hK K hHe
  refine norm_ (a' := ?_) ?_ ?_
  rotate_left
  · (show Act.put _ (some 33) _ = _; simp only [Act.put, List.setIfInBounds_toArray, List.set_cons_zero, List.set_cons_succ, i64_w, i32_w]; rfl)
  refine pure_ (i := 14) (N := some 44) (v := .int .u64 0) (a' := ?_) #[true, true, true, true, true, true, true, true, true, true, true, true, true, true, true, false, false, false, false, false, false, false, false] rfl rfl (by kernel_rfl) (fun _ _ _ h => h) (Or.inl ⟨by rfl, ?_⟩) ?_ ?_
  · (intro w'; go_simp; first | done | with_reducible rfl | rfl | (simp [Instr.field, go_sem]; rfl) | simp)
  rotate_left
  · (simp only [Act.put, List.setIfInBounds_toArray, List.set_cons_zero, List.set_cons_succ, i64_w, i32_w]; rfl)
  refine one_ (i := 15) (N := some 45) #[true, true, true, true, true, true, true, true, true, true, true, true, true, true, true, true, false, false, false, false, false, false, false] rfl rfl (by kernel_rfl) (by decide) (fun K hK => ?_)
  refine goes_ Tryd.func35 (by kernel_rfl) rfl #[.int .u64 0] (by rfl) rfl rfl (by (try simp only [List.map_toArray, List.map_cons, List.map_nil]); first | done | rfl) ?_
  refine (ballot_Owner.calls 0 0 0 false _ HO.out).mono ?_
  rintro e w3 ⟨rfl, hd⟩
  have hHe := below_step hHeld (Drawn0.below hd)
  clear hHeld hd
  refine ⟨_, rfl, ?_⟩
  refine hK _ _ hHe (fun hHeld => ?_)
  clear hK K hHe
  refine norm_ (a' := ?_) ?_ ?_
  rotate_left
  · (show Act.put _ (some 45) _ = _; simp only [Act.put, List.setIfInBounds_toArray, List.set_cons_zero, List.set_cons_succ, i64_w, i32_w]; rfl)
  refine pure_ (i := 16) (N := some 29) (v := ?_) (a' := ?_) #[true, true, true, true, true, true, true, true, true, true, true, true, true, true, true, true, true, false, false, false, false, false, false] rfl rfl (by kernel_rfl) (fun _ _ _ h => h) (Or.inl ⟨by rfl, ?_⟩) ?_ ?_
  rotate_left
  · (intro w'; go_simp; first | done | with_reducible rfl | rfl | (simp [Instr.field, go_sem]; rfl))
  rotate_left
  · (simp only [Act.put, List.setIfInBounds_toArray, List.set_cons_zero, List.set_cons_succ, i64_w, i32_w]; rfl)
  refine pure_ (i := 17) (N := some 46) (v := ?_) (a' := ?_) #[true, true, true, true, true, true, true, true, true, true, true, true, true, true, true, true, true, true, false, false, false, false, false] rfl rfl (by kernel_rfl) (fun _ _ _ h => h) (Or.inl ⟨by rfl, ?_⟩) ?_ ?_
  rotate_left
  · (intro w'; go_simp; first | done | with_reducible rfl | rfl | (simp [Instr.field, go_sem]; rfl))
  rotate_left
  · (simp only [Act.put, List.setIfInBounds_toArray, List.set_cons_zero, List.set_cons_succ, i64_w, i32_w]; rfl)
  refine pure_ (i := 18) (N := some 47) (v := ?_) (a' := ?_) #[true, true, true, true, true, true, true, true, true, true, true, true, true, true, true, true, true, true, true, false, false, false, false] rfl rfl (by kernel_rfl) (fun _ _ _ h => h) (Or.inl ⟨by rfl, ?_⟩) ?_ ?_
  rotate_left
  · (intro w'; go_simp; first | done | with_reducible rfl | rfl | (simp [Instr.field, go_sem]; rfl))
  rotate_left
  · (simp only [Act.put, List.setIfInBounds_toArray, List.set_cons_zero, List.set_cons_succ, i64_w, i32_w]; rfl)
  refine pure_ (i := 19) (N := some 48) (v := ?_) (a' := ?_) #[true, true, true, true, true, true, true, true, true, true, true, true, true, true, true, true, true, true, true, true, false, false, false] rfl rfl (by kernel_rfl) (fun _ _ _ h => h) (Or.inl ⟨by rfl, ?_⟩) ?_ ?_
  rotate_left
  · (intro w'; go_simp; first | done | with_reducible rfl | rfl | (simp [Instr.field, go_sem]; rfl))
  rotate_left
  · (simp only [Act.put, List.setIfInBounds_toArray, List.set_cons_zero, List.set_cons_succ, i64_w, i32_w]; rfl)
  refine pure_ (i := 20) (N := some 10) (v := ?_) (a' := ?_) #[true, true, true, true, true, true, true, true, true, true, true, true, true, true, true, true, true, true, true, true, true, false, false] rfl rfl (by kernel_rfl) (fun _ _ _ h => h) (Or.inl ⟨by rfl, ?_⟩) ?_ ?_
  rotate_left
  · (intro w'; go_simp; first | done | with_reducible rfl | rfl | (simp [Instr.field, go_sem]; rfl))
  rotate_left
  · (simp only [Act.put, List.setIfInBounds_toArray, List.set_cons_zero, List.set_cons_succ, i64_w, i32_w]; rfl)
  refine pure_ (i := 21) (N := some 11) (v := ?_) (a' := ?_) #[true, true, true, true, true, true, true, true, true, true, true, true, true, true, true, true, true, true, true, true, true, true, false] rfl rfl (by kernel_rfl) (fun _ _ _ h => h) (Or.inl ⟨by rfl, ?_⟩) ?_ ?_
  rotate_left
  · (intro w'; go_simp; first | done | with_reducible rfl | rfl | (simp [Instr.field, go_sem]; rfl))
  rotate_left
  · (simp only [Act.put, List.setIfInBounds_toArray, List.set_cons_zero, List.set_cons_succ, i64_w, i32_w]; rfl)
  refine pure_ (i := 22) (N := some 12) (v := ?_) (a' := ?_) #[true, true, true, true, true, true, true, true, true, true, true, true, true, true, true, true, true, true, true, true, true, true, true] rfl rfl (by kernel_rfl) (fun _ _ _ h => h) (Or.inl ⟨by rfl, ?_⟩) ?_ ?_
  rotate_left
  · (intro w'; go_simp; first | done | with_reducible rfl | rfl | (simp [Instr.field, go_sem]; rfl))
  rotate_left
  · (simp only [Act.put, List.setIfInBounds_toArray, List.set_cons_zero, List.set_cons_succ, i64_w, i32_w]; rfl)
  refine done_ (by kernel_rfl) ?_
  have KT := Aside0.mk (blk_below KTd.out hHeld)
  have B := Aside0.mk (BD.out.trans (KeepBut.of_below hHeld g none) (.inl rfl))
  clear KTd BD hHeld
  rename World => w4
  have xme := (blk_cell KT.out 4).trans (tc_me s)
  go_wp2_with (first
    | (go_at_call 37; refine (ballot_Number.calls 1 s.me b 0 _ AhNum.out).mono ?_; rintro e w5 ⟨rfl, hd⟩; replace KT := Aside0.mk (blk_below KT.out (Drawn0.below hd)); replace B := Aside0.mk (B.out.trans (KeepBut.of_below (Drawn0.below hd) g none) (.inl rfl)); clear hd xme)
    | (go_at_call 31; refine (freeze_new _ g s r KT.out Ahfr.out).mono ?_; rintro e w6 ⟨⟨v_, rfl⟩, ht, hk⟩; replace KT := Aside0.mk ht; replace B := Aside0.mk (B.out.trans hk (.inl rfl)); clear ht hk))
  refine start_ (n := 18) (S := fun w' => Below w6.drew.heap.size w6.drew w') (ds := [17]) #[false, false, false, false, false, false, false, false, false, false, false, false, false, false, false, false, false, false] (by kernel_rfl) rfl rfl (Below.refl _ _) (fun hHeld => ?_)
  have KTd : Aside0 (w6.drew.heap[g]? = some (.cells (tc { s with fr := true, rc := r }) 81 (0, 0))) := ⟨blk_drew KT.out⟩
  have BD := Aside0.mk (keep_drew B.out)
  clear KT B
  generalize w6.drew = wd at KTd BD hHeld ⊢
  refine pure_ (i := 0) (N := some 65) (v := ?_) (a' := ?_) #[true, false, false, false, false, false, false, false, false, false, false, false, false, false, false, false, false, false] rfl rfl (by kernel_rfl) (fun _ _ _ h => h) (Or.inl ⟨by rfl, ?_⟩) ?_ ?_
  rotate_left
  · (intro w'; go_simp; first | done | with_reducible rfl | rfl | (simp [Instr.field, go_sem]; rfl))
  rotate_left
  · (simp only [Act.put, List.setIfInBounds_toArray, List.set_cons_zero, List.set_cons_succ, i64_w, i32_w]; rfl)
  refine pure_ (i := 1) (N := some 66) (v := ?_) (a' := ?_) #[true, true, false, false, false, false, false, false, false, false, false, false, false, false, false, false, false, false] rfl rfl (by kernel_rfl) (fun _ _ _ h => h) (Or.inl ⟨by rfl, ?_⟩) ?_ ?_
  rotate_left
  · (intro w'; go_simp; first | done | with_reducible rfl | rfl | (simp [Instr.field, go_sem]; rfl))
  rotate_left
  · (simp only [Act.put, List.setIfInBounds_toArray, List.set_cons_zero, List.set_cons_succ, i64_w, i32_w]; rfl)
  refine pure_ (i := 2) (N := some 67) (v := ?_) (a' := ?_) #[true, true, true, false, false, false, false, false, false, false, false, false, false, false, false, false, false, false] rfl rfl (by kernel_rfl) (fun _ _ _ h => h) (Or.inl ⟨by rfl, ?_⟩) ?_ ?_
  rotate_left
  · (intro w'; go_simp; first | done | with_reducible rfl | rfl | (simp [Instr.field, go_sem]; rfl))
  rotate_left
  · (simp only [Act.put, List.setIfInBounds_toArray, List.set_cons_zero, List.set_cons_succ, i64_w, i32_w]; rfl)
  refine pure_ (i := 3) (N := some 68) (v := ?_) (a' := ?_) #[true, true, true, true, false, false, false, false, false, false, false, false, false, false, false, false, false, false] rfl rfl (by kernel_rfl) (fun _ _ _ h => h) (Or.inl ⟨by rfl, ?_⟩) ?_ ?_
  rotate_left
  · (intro w'; go_simp; first | done | with_reducible rfl | rfl | (simp [Instr.field, go_sem]; rfl))
  rotate_left
  · (simp only [Act.put, List.setIfInBounds_toArray, List.set_cons_zero, List.set_cons_succ, i64_w, i32_w]; rfl)
  refine pure_ (i := 4) (N := some 69) (v := ?_) (a' := ?_) #[true, true, true, true, true, false, false, false, false, false, false, false, false, false, false, false, false, false] rfl rfl (by kernel_rfl) (fun _ _ _ h => h) (Or.inl ⟨by rfl, ?_⟩) ?_ ?_
  rotate_left
  · (intro w'; go_simp; first | done | with_reducible rfl | rfl | (simp [Instr.field, go_sem]; rfl))
  rotate_left
  · (simp only [Act.put, List.setIfInBounds_toArray, List.set_cons_zero, List.set_cons_succ, i64_w, i32_w]; rfl)
  refine pure_ (i := 5) (N := some 70) (v := ?_) (a' := ?_) #[true, true, true, true, true, true, false, false, false, false, false, false, false, false, false, false, false, false] rfl rfl (by kernel_rfl) (fun _ _ _ h => h) (Or.inl ⟨by rfl, ?_⟩) ?_ ?_
  rotate_left
  · (intro w'; go_simp; first | done | with_reducible rfl | rfl | (simp [Instr.field, go_sem]; rfl))
  rotate_left
  · (simp only [Act.put, List.setIfInBounds_toArray, List.set_cons_zero, List.set_cons_succ, i64_w, i32_w]; rfl)
  refine take_ (i := 6) (N := some 71) (v := ?_) (a' := ?_) #[true, true, true, true, true, true, true, false, false, false, false, false, false, false, false, false, false, false] rfl rfl (by kernel_rfl) (fun _ _ _ h => h) (Or.inl ⟨by rfl, ?_⟩) hHeld ?_ ?_
  rotate_left
  · (intro w' s0; have x0 := (blk_cell (blk_below KTd.out s0) 10).trans (tc_seen _); go_simp; first | done | with_reducible rfl | rfl | (simp [Instr.field, go_sem]; rfl))
  rotate_left
  · (simp only [Act.put, List.setIfInBounds_toArray, List.set_cons_zero, List.set_cons_succ, i64_w, i32_w]; rfl)
  refine pure_ (i := 7) (N := some 72) (v := ?_) (a' := ?_) #[true, true, true, true, true, true, true, true, false, false, false, false, false, false, false, false, false, false] rfl rfl (by kernel_rfl) (fun _ _ _ h => h) (Or.inl ⟨by rfl, ?_⟩) ?_ ?_
  rotate_left
  · (intro w'; go_simp; first | done | with_reducible rfl | rfl | (simp [Instr.field, go_sem]; rfl))
  rotate_left
  · (simp only [Act.put, List.setIfInBounds_toArray, List.set_cons_zero, List.set_cons_succ, i64_w, i32_w]; rfl)
  refine pure_ (i := 8) (N := some 73) (v := ?_) (a' := ?_) #[true, true, true, true, true, true, true, true, true, false, false, false, false, false, false, false, false, false] rfl rfl (by kernel_rfl) (fun _ _ _ h => h) (Or.inl ⟨by rfl, ?_⟩) ?_ ?_
  rotate_left
  · (intro w'; go_simp; first | done | with_reducible rfl | rfl | (simp [Instr.field, go_sem]; rfl))
  rotate_left
  · (simp only [Act.put, List.setIfInBounds_toArray, List.set_cons_zero, List.set_cons_succ, i64_w, i32_w]; rfl)
  refine pure_ (i := 9) (N := some 74) (v := ?_) (a' := ?_) #[true, true, true, true, true, true, true, true, true, true, false, false, false, false, false, false, false, false] rfl rfl (by kernel_rfl) (fun _ _ _ h => h) (Or.inl ⟨by rfl, ?_⟩) ?_ ?_
  rotate_left
  · (intro w'; go_simp; first | done | with_reducible rfl | rfl | (simp [Instr.field, go_sem]; rfl))
  rotate_left
  · (simp only [Act.put, List.setIfInBounds_toArray, List.set_cons_zero, List.set_cons_succ, i64_w, i32_w]; rfl)
  refine pure_ (i := 10) (N := some 75) (v := ?_) (a' := ?_) #[true, true, true, true, true, true, true, true, true, true, true, false, false, false, false, false, false, false] rfl rfl (by kernel_rfl) (fun _ _ _ h => h) (Or.inl ⟨by rfl, ?_⟩) ?_ ?_
  rotate_left
  · (intro w'; go_simp; first | done | with_reducible rfl | rfl | (simp [Instr.field, go_sem]; rfl))
  rotate_left
  · (simp only [Act.put, List.setIfInBounds_toArray, List.set_cons_zero, List.set_cons_succ, i64_w, i32_w]; rfl)
  refine take_ (i := 11) (N := some 76) (v := ?_) (a' := ?_) #[true, true, true, true, true, true, true, true, true, true, true, true, false, false, false, false, false, false] rfl rfl (by kernel_rfl) (fun _ _ _ h => h) (Or.inl ⟨by rfl, ?_⟩) hHeld ?_ ?_
  rotate_left
  · (intro w' s0; have x0 := (blk_cell (blk_below KTd.out s0) 4).trans (tc_me _); go_simp; first | done | with_reducible rfl | rfl | (simp [Instr.field, go_sem]; rfl))
  rotate_left
  · (simp only [Act.put, List.setIfInBounds_toArray, List.set_cons_zero, List.set_cons_succ, i64_w, i32_w]; rfl)
  refine pure_ (i := 13) (N := some 78) (v := ?_) (a' := ?_) #[true, true, true, true, true, true, true, true, true, true, true, true, false, true, false, false, false, false] rfl rfl (by kernel_rfl) (fun _ _ _ h => h) (Or.inl ⟨by rfl, ?_⟩) ?_ ?_
  rotate_left
  · (intro w'; go_simp; first | done | with_reducible rfl | rfl | (simp [Instr.field, go_sem]; rfl))
  rotate_left
  · (simp only [Act.put, List.setIfInBounds_toArray, List.set_cons_zero, List.set_cons_succ, i64_w, i32_w]; rfl)
  refine one_ (i := 12) (N := some 77) #[true, true, true, true, true, true, true, true, true, true, true, true, true, true, false, false, false, false] rfl rfl (by kernel_rfl) (by decide) (fun K hK => ?_)
  refine goes_ Tryd.func38 (by kernel_rfl) rfl #[.int .u64 live, .int .i64 s.me] (by rfl) rfl rfl (by (try simp only [List.map_toArray, List.map_cons, List.map_nil]); first | done | rfl) ?_
  refine (band_With.calls live s.me lv _ AhW.out).mono ?_
  rintro e w7 ⟨rfl, hd⟩
  have KTe := Aside0.mk (blk_below KTd.out (below_step hHeld (Drawn0.below hd)))
  have BE := Aside0.mk (BD.out.trans (KeepBut.of_below (below_step hHeld (Drawn0.below hd)) g none) (.inl rfl))
  have hHe := below_step hHeld (Drawn0.below hd)
  clear hHeld hd
  refine ⟨_, rfl, ?_⟩
  refine hK _ _ hHe (fun hHeld => ?_)
  clear hK K hHe
  refine norm_ (a' := ?_) ?_ ?_
  rotate_left
  · (show Act.put _ (some 77) _ = _; simp only [Act.put, List.setIfInBounds_toArray, List.set_cons_zero, List.set_cons_succ, i64_w, i32_w]; rfl)
  refine pure_ (i := 14) (N := some 79) (v := .agg (wishC b s.seen lv jn).toArray) (a' := ?_) #[true, true, true, true, true, true, true, true, true, true, true, true, true, true, true, false, false, false] rfl rfl (by kernel_rfl) (fun _ _ _ h => h) (Or.inl ⟨by rfl, ?_⟩) ?_ ?_
  · (intro w'; exact wish_yields rfl b s.seen lv jn rfl rfl rfl rfl)
  rotate_left
  · (simp only [Act.put, List.setIfInBounds_toArray, List.set_cons_zero, List.set_cons_succ, i64_w, i32_w]; rfl)
  refine pure_ (i := 15) (N := some 80) (v := ?_) (a' := ?_) #[true, true, true, true, true, true, true, true, true, true, true, true, true, true, true, true, false, false] rfl rfl (by kernel_rfl) (fun _ _ _ h => h) (Or.inl ⟨by rfl, ?_⟩) ?_ ?_
  rotate_left
  · (intro w'; go_simp; first | done | with_reducible rfl | rfl | (simp [Instr.field, go_sem]; rfl))
  rotate_left
  · (simp only [Act.put, List.setIfInBounds_toArray, List.set_cons_zero, List.set_cons_succ, i64_w, i32_w]; rfl)
  refine pure_ (i := 16) (N := some 81) (v := ?_) (a' := ?_) #[true, true, true, true, true, true, true, true, true, true, true, true, true, true, true, true, true, false] rfl rfl (by kernel_rfl) (fun _ _ _ h => h) (Or.inl ⟨by rfl, ?_⟩) ?_ ?_
  rotate_left
  · (intro w'; go_simp; first | done | with_reducible rfl | rfl | (simp [Instr.field, go_sem]; rfl))
  rotate_left
  · (simp only [Act.put, List.setIfInBounds_toArray, List.set_cons_zero, List.set_cons_succ, i64_w, i32_w]; rfl)
  refine last_ (i := 17) (N := none) #[true, true, true, true, true, true, true, true, true, true, true, true, true, true, true, true, true, true] rfl rfl (by kernel_rfl) (by decide) (fun K hK => ?_)
  refine skip_ (w1 := w7.setCells g 9 (wishC b s.seen lv jn)) (by rfl) rfl (wish_stores rfl g { s with fr := true, rc := r } b s.seen lv jn (by kernel_rfl) (by kernel_rfl) KTe.out) ?_
  refine hK _ _ ?_
  clear hK K
  refine done_ (by kernel_rfl) ?_
  have KT : Aside0 ((w7.setCells g 9 (wishC b s.seen lv jn)).heap[g]? = some (.cells (tc { s with fr := true, rc := r, wb := b, seen := s.seen, live := lv, joins := jn, heard := 0, far := 0, asked := false, wm := 0, wc := 0, taken := 0 }) 81 (0, 0))) := ⟨by
    have h := blk_setCells (wishC b s.seen lv jn) 9 w7 _ KTe.out
    rw [putAll_W] at h
    exact h⟩
  have B := Aside0.mk (keep_setCells (wishC b s.seen lv jn) 9 w7 BE.out)
  clear hHeld KTd BD KTe BE
  generalize w7.setCells g 9 (wishC b s.seen lv jn) = w8 at KT B ⊢
  go_wp2_with (first
    | (go_at_call 40; refine (prepareL _ g { s with fr := true, rc := r, wb := b, seen := s.seen, live := lv, joins := jn, heard := 0, far := 0, asked := false, wm := 0, wc := 0, taken := 0 } KT.out).mono ?_; rintro e wj ⟨rfl, hb⟩; replace KT := Aside0.mk (blk_below KT.out hb); replace B := Aside0.mk (B.out.trans (KeepBut.of_below hb g none) (.inl rfl)); clear hb)
    | (go_at_call 39; refine (tell_me _ g { s with fr := true, rc := r, wb := b, seen := s.seen, live := lv, joins := jn, heard := 0, far := 0, asked := false, wm := 0, wc := 0, taken := 0 } 4 0 0 0 0 0 b 0 0 0 0 S l1 xs KT.out (tab_keep AhTab.out KT0.out B.out) Ahme.out Ahvm.out Ahle1.out Ahli1.out Ahlen.out AhH.out).mono ?_; rintro e wk ⟨v, rfl, hq⟩; have HQ := Aside0.mk (rq_from B.out hq); clear hq))
  go_ret2
  exact ⟨v, rfl, HQ.out⟩
end Go.Proofs.YtkjjegakfceibaaDoor.B
