/- By hand: New, answer to another, settled, prepared (printed by mid.py). -/
import Derived.Test.YtkjjegakfceibaaDoorEv
import Derived.Test.YtkjjegakfceibaaDoorMayS
namespace Go.Proofs.YtkjjegakfceibaaDoor.B
open Go.RowKit Go.Proofs.YtkjjegakfceibaaDoorW.PrintWords Go.Proofs.YtkjjegakfceibaaDoorW.PrintLast Go.Proofs.YtkjjegakfceibaaDoorW.PrintMore
set_option linter.unusedSimpArgs false
set_option linter.unusedVariables false
set_option maxRecDepth 100000 in
set_option maxHeartbeats 4000000 in
theorem new_at (me vi vm : Int) (w : World) (hh : band_Has.f vm me = some true) (hv : vi ≠ 18446744073709551615) :
    Calls Tryd.prog 8 #[.int .i64 me, .agg #[.int .u64 vi, .int .u64 vm]] w fun e w' => ∃ g, e = .returned (.pointer (some ⟨g, 0, none⟩)) ∧ w.heap.size ≤ g ∧ TB w' g (newT me vi vm) ∧ Below w.heap.size w w' := by
  have HH := Aside0.mk hh
  clear hh
  go_enter Tryd.func8, Tryd.ntmps8
  go_wp2_with (first
    | ((with_reducible refine gate_dst (N := 3) rfl ?_); refine box_event ?hg (N := 3) ?hd (cs := #[.int .u64 vi, .int .u64 vm]) (t := 27) ?hr ?_; (case hd => rfl); (case hg => rfl); (case hr => first | (go_simp; done) | (go_simp; rfl)); intro g1 hg_ w1 hb_ hB_; have KL := Aside0.mk hb_; have B := Aside0.mk hB_; have x0 := (blk_cell KL.out 0).trans rfl; have x1 := (blk_cell KL.out 1).trans rfl; clear hg_ hb_ hB_)
    | (go_at_call 23; refine (band_Has.calls vm me true _ HH.out).mono ?_; rintro e w2 ⟨rfl, hd⟩; clear x0 x1; replace KL := Aside0.mk (blk_below KL.out (Drawn0.below hd)); replace B := Aside0.mk (below_step B.out (Drawn0.below hd)); have x0 := (blk_cell KL.out 0).trans rfl; have x1 := (blk_cell KL.out 1).trans rfl; clear hd)
    | (refine build_T rfl _ _ rfl me vi vm rfl rfl ?_)
    | ((with_reducible refine gate_dst (N := 18) rfl ?_); refine box_event ?hg (N := 18) ?hd (cs := tc (newT me vi vm)) (t := 81) ?hr ?_; (case hd => rfl); (case hg => rfl); (case hr => first | (go_simp; done) | (go_simp; rfl)); intro g hg_ w3 hb_ hB_; have GE := Aside0.mk (show w.heap.size ≤ g by rw [hg_]; exact B.out.size); have KN := Aside0.mk hb_; replace B := Aside0.mk (below_step B.out hB_); clear hg_ hb_ hB_))
  go_ret
  exact ⟨g, rfl, GE.out, KN.out, B.out⟩
set_option maxRecDepth 100000 in
set_option maxHeartbeats 4000000 in
theorem answer_other (w : World) (g : Nat) (s : TS) (n : Int) (k f t sq vi vm b od ni nm cut : Int) (hT : TB w g s) (hn : n ≠ s.me) :
    Calls Tryd.prog 67 #[.pointer (some ⟨g, 0, none⟩), .int .i64 n, .agg #[.int .i64 k, .int .i64 f, .int .i64 t, .int .u64 sq, .int .i64 0, .slice none 0 0, .int .u64 vi, .int .u64 vm, .int .u64 b, .int .u64 od, .int .u64 ni, .int .u64 nm, .int .u64 cut, .slice none 0 0, .slice none 0 0, .float .f64 0]] w fun e w' => ∃ g2, e = .returned (.slice (some ⟨g2, 0, none⟩) 1 1) ∧ w.heap.size ≤ g2 ∧ w'.heap[g2]? = some (.cells #[.int .i64 k, .int .i64 s.me, .int .i64 n, .int .u64 sq, .int .i64 0, .slice none 0 0, .int .u64 s.vi, .int .u64 s.vm, .int .u64 b, .int .u64 od, .int .u64 ni, .int .u64 nm, .int .u64 cut, .slice none 0 0, .slice none 0 0, .float .f64 0] 40 (0, 0)) ∧ Below w.heap.size w w' := by
  have KT := Aside0.mk hT
  clear hT
  have HN := Aside0.mk hn
  have si40 := si40
  clear hn
  go_enter Tryd.func67, Tryd.ntmps67
  go_wp2_with ((with_reducible refine gate_dst (N := 5) rfl ?_); refine box_event ?hg (N := 5) ?hd (cs := #[.int .i64 k, .int .i64 f, .int .i64 t, .int .u64 sq, .int .i64 0, .slice none 0 0, .int .u64 vi, .int .u64 vm, .int .u64 b, .int .u64 od, .int .u64 ni, .int .u64 nm, .int .u64 cut, .slice none 0 0, .slice none 0 0, .float .f64 0]) (t := 40) ?hr ?_; (case hd => rfl); (case hg => rfl); (case hr => first | (go_simp; done) | (go_simp; rfl)); intro g1 hg_ w1 hb_ hB_; have G1 := Aside0.mk hg_; have KL := Aside0.mk hb_; have B1 := Aside0.mk hB_; replace KT := Aside0.mk (blk_below KT.out hB_); clear hg_ hb_ hB_)
  have L1 : Aside0 (w.heap.size ≤ g1) := ⟨Nat.le_of_eq G1.out.symm⟩
  have ng : Aside0 (g ≠ g1) := ⟨blk_ne KT.out KL.out (by decide)⟩
  refine start_ (n := 15) (S := fun w' => w'.heap[g]? = some (.cells (tc s) 81 (0, 0)) ∧ Below w.heap.size w w') (ds := []) #[false, false, false, false, false, false, false, false, false, false, false, false, false, false, false] (by kernel_rfl) rfl rfl ⟨blk_drew KT.out, below_drew1 B1.out⟩ (fun hHeld => ?_)
  have KLd := Aside0.mk (blk_drew KL.out)
  have KTd := Aside0.mk hHeld.1
  have BD := Aside0.mk hHeld.2
  generalize w1.drew = wd at KTd KLd BD hHeld ⊢
  refine pure_ (i := 0) (N := some 9) (v := ?_) (a' := ?_) #[true, false, false, false, false, false, false, false, false, false, false, false, false, false, false] rfl rfl (by kernel_rfl) (fun _ _ _ h => h) (Or.inl ⟨by rfl, ?_⟩) ?_ ?_
  rotate_left
  · (intro w'; go_simp; first | done | with_reducible rfl | rfl | (simp [Instr.field, go_sem]; rfl))
  rotate_left
  · (simp only [Act.put, List.setIfInBounds_toArray, List.set_cons_zero, List.set_cons_succ, i64_w, i32_w]; rfl)
  refine pure_ (i := 1) (N := some 10) (v := ?_) (a' := ?_) #[true, true, false, false, false, false, false, false, false, false, false, false, false, false, false] rfl rfl (by kernel_rfl) (fun _ _ _ h => h) (Or.inl ⟨by rfl, ?_⟩) ?_ ?_
  rotate_left
  · (intro w'; go_simp; first | done | with_reducible rfl | rfl | (simp [Instr.field, go_sem]; rfl))
  rotate_left
  · (simp only [Act.put, List.setIfInBounds_toArray, List.set_cons_zero, List.set_cons_succ, i64_w, i32_w]; rfl)
  refine pure_ (i := 2) (N := some 11) (v := ?_) (a' := ?_) #[true, true, true, false, false, false, false, false, false, false, false, false, false, false, false] rfl rfl (by kernel_rfl) (fun _ _ _ h => h) (Or.inl ⟨by rfl, ?_⟩) ?_ ?_
  rotate_left
  · (intro w'; go_simp; first | done | with_reducible rfl | rfl | (simp [Instr.field, go_sem]; rfl))
  rotate_left
  · (simp only [Act.put, List.setIfInBounds_toArray, List.set_cons_zero, List.set_cons_succ, i64_w, i32_w]; rfl)
  refine pure_ (i := 5) (N := some 14) (v := ?_) (a' := ?_) #[true, true, true, false, false, true, false, false, false, false, false, false, false, false, false] rfl rfl (by kernel_rfl) (fun _ _ _ h => h) (Or.inl ⟨by rfl, ?_⟩) ?_ ?_
  rotate_left
  · (intro w'; go_simp; first | done | with_reducible rfl | rfl | (simp [Instr.field, go_sem]; rfl))
  rotate_left
  · (simp only [Act.put, List.setIfInBounds_toArray, List.set_cons_zero, List.set_cons_succ, i64_w, i32_w]; rfl)
  refine pure_ (i := 6) (N := some 15) (v := ?_) (a' := ?_) #[true, true, true, false, false, true, true, false, false, false, false, false, false, false, false] rfl rfl (by kernel_rfl) (fun _ _ _ h => h) (Or.inl ⟨by rfl, ?_⟩) ?_ ?_
  rotate_left
  · (intro w'; go_simp; first | done | with_reducible rfl | rfl | (simp [Instr.field, go_sem]; rfl))
  rotate_left
  · (simp only [Act.put, List.setIfInBounds_toArray, List.set_cons_zero, List.set_cons_succ, i64_w, i32_w]; rfl)
  refine pure_ (i := 7) (N := some 16) (v := ?_) (a' := ?_) #[true, true, true, false, false, true, true, true, false, false, false, false, false, false, false] rfl rfl (by kernel_rfl) (fun _ _ _ h => h) (Or.inl ⟨by rfl, ?_⟩) ?_ ?_
  rotate_left
  · (intro w'; go_simp; first | done | with_reducible rfl | rfl | (simp [Instr.field, go_sem]; rfl))
  rotate_left
  · (simp only [Act.put, List.setIfInBounds_toArray, List.set_cons_zero, List.set_cons_succ, i64_w, i32_w]; rfl)
  refine take_ (i := 3) (N := some 12) (v := ?_) (a' := ?_) #[true, true, true, true, false, true, true, true, false, false, false, false, false, false, false] rfl rfl (by kernel_rfl) (fun _ _ _ h => h) (Or.inl ⟨by rfl, ?_⟩) hHeld ?_ ?_
  rotate_left
  · (intro w' s0; have x0 := (blk_cell s0.1 4).trans (tc_me _); go_simp; first | done | with_reducible rfl | rfl | (simp [Instr.field, go_sem]; rfl))
  rotate_left
  · (simp only [Act.put, List.setIfInBounds_toArray, List.set_cons_zero, List.set_cons_succ, i64_w, i32_w]; rfl)
  refine pure_ (i := 4) (N := some 13) (v := ?_) (a' := ?_) #[true, true, true, true, true, true, true, true, false, false, false, false, false, false, false] rfl rfl (by kernel_rfl) (fun _ _ _ h => h) (Or.inl ⟨by rfl, ?_⟩) ?_ ?_
  rotate_left
  · (intro w'; go_simp; first | done | with_reducible rfl | rfl | (simp [Instr.field, go_sem]; rfl))
  rotate_left
  · (simp only [Act.put, List.setIfInBounds_toArray, List.set_cons_zero, List.set_cons_succ, i64_w, i32_w]; rfl)
  refine take_ (i := 8) (N := some 17) (v := ?_) (a' := ?_) #[true, true, true, true, true, true, true, true, true, false, false, false, false, false, false] rfl rfl (by kernel_rfl) (fun _ _ _ h => h) (Or.inl ⟨by rfl, ?_⟩) hHeld ?_ ?_
  rotate_left
  · (intro w' s0; have x0 := (blk_cell s0.1 5).trans (tc_vi _); have x1 := (blk_cell s0.1 6).trans (tc_vm _); go_simp; first | done | with_reducible rfl | rfl | (simp [Instr.field, go_sem]; rfl))
  rotate_left
  · (simp only [Act.put, List.setIfInBounds_toArray, List.set_cons_zero, List.set_cons_succ, i64_w, i32_w]; rfl)
  refine pure_ (i := 9) (N := some 18) (v := ?_) (a' := ?_) #[true, true, true, true, true, true, true, true, true, true, false, false, false, false, false] rfl rfl (by kernel_rfl) (fun _ _ _ h => h) (Or.inl ⟨by rfl, ?_⟩) ?_ ?_
  rotate_left
  · (intro w'; go_simp; first | done | with_reducible rfl | rfl | (simp [Instr.field, go_sem]; rfl))
  rotate_left
  · (simp only [Act.put, List.setIfInBounds_toArray, List.set_cons_zero, List.set_cons_succ, i64_w, i32_w]; rfl)
  refine one_ (i := 10) (N := none) #[true, true, true, true, true, true, true, true, true, true, true, false, false, false, false] rfl rfl (by kernel_rfl) (by decide) (fun K hK => ?_)
  have fr := fun j => blk_frozen KLd.out j
  have c1 := (blk_cell KLd.out 1).trans rfl
  refine skip_ (w1 := ?_) (by rfl) rfl ?_ ?_
  rotate_left
  · (go_simp; rfl)
  refine hK _ _ ⟨blk_far KTd.out (p := ⟨g1, 1, none⟩) ng.out _, below_set BD.out L1.out⟩ (fun hHeld => ?_)
  clear hK K
  clear fr c1
  have KLe : Aside0 ((wd.setCell ⟨g1, 1, none⟩ (.int .i64 s.me)).heap[g1]? = some (.cells #[.int .i64 k, .int .i64 s.me, .int .i64 t, .int .u64 sq, .int .i64 0, .slice none 0 0, .int .u64 vi, .int .u64 vm, .int .u64 b, .int .u64 od, .int .u64 ni, .int .u64 nm, .int .u64 cut, .slice none 0 0, .slice none 0 0, .float .f64 0] 40 (0, 0))) := ⟨(blk_put KLd.out 1 _ rfl)⟩
  replace KTd := Aside0.mk hHeld.1
  replace BD := Aside0.mk hHeld.2
  clear KLd
  generalize (wd.setCell ⟨g1, 1, none⟩ (.int .i64 s.me)) = we at KLe KTd BD hHeld ⊢
  have KLd := KLe
  clear KLe
  refine pure_ (i := 11) (N := some 19) (v := ?_) (a' := ?_) #[true, true, true, true, true, true, true, true, true, true, true, true, false, false, false] rfl rfl (by kernel_rfl) (fun _ _ _ h => h) (Or.inl ⟨by rfl, ?_⟩) ?_ ?_
  rotate_left
  · (intro w'; go_simp; first | done | with_reducible rfl | rfl | (simp [Instr.field, go_sem]; rfl))
  rotate_left
  · (simp only [Act.put, List.setIfInBounds_toArray, List.set_cons_zero, List.set_cons_succ, i64_w, i32_w]; rfl)
  refine one_ (i := 12) (N := none) #[true, true, true, true, true, true, true, true, true, true, true, true, true, false, false] rfl rfl (by kernel_rfl) (by decide) (fun K hK => ?_)
  have fr := fun j => blk_frozen KLd.out j
  have c2 := (blk_cell KLd.out 2).trans rfl
  refine skip_ (w1 := ?_) (by rfl) rfl ?_ ?_
  rotate_left
  · (go_simp; rfl)
  refine hK _ _ ⟨blk_far KTd.out (p := ⟨g1, 2, none⟩) ng.out _, below_set BD.out L1.out⟩ (fun hHeld => ?_)
  clear hK K
  clear fr c2
  have KLe : Aside0 ((we.setCell ⟨g1, 2, none⟩ (.int .i64 n)).heap[g1]? = some (.cells #[.int .i64 k, .int .i64 s.me, .int .i64 n, .int .u64 sq, .int .i64 0, .slice none 0 0, .int .u64 vi, .int .u64 vm, .int .u64 b, .int .u64 od, .int .u64 ni, .int .u64 nm, .int .u64 cut, .slice none 0 0, .slice none 0 0, .float .f64 0] 40 (0, 0))) := ⟨(blk_put KLd.out 2 _ rfl)⟩
  replace KTd := Aside0.mk hHeld.1
  replace BD := Aside0.mk hHeld.2
  clear KLd
  generalize (we.setCell ⟨g1, 2, none⟩ (.int .i64 n)) = wf at KLe KTd BD hHeld ⊢
  have KLd := KLe
  clear KLe
  refine pure_ (i := 13) (N := some 20) (v := ?_) (a' := ?_) #[true, true, true, true, true, true, true, true, true, true, true, true, true, true, false] rfl rfl (by kernel_rfl) (fun _ _ _ h => h) (Or.inl ⟨by rfl, ?_⟩) ?_ ?_
  rotate_left
  · (intro w'; go_simp; first | done | with_reducible rfl | rfl | (simp [Instr.field, go_sem]; rfl))
  rotate_left
  · (simp only [Act.put, List.setIfInBounds_toArray, List.set_cons_zero, List.set_cons_succ, i64_w, i32_w]; rfl)
  refine one_ (i := 14) (N := none) #[true, true, true, true, true, true, true, true, true, true, true, true, true, true, true] rfl rfl (by kernel_rfl) (by decide) (fun K hK => ?_)
  have fr := fun j => blk_frozen KLd.out j
  have c6 := (blk_cell KLd.out 6).trans rfl
  have c7 := (blk_cell KLd.out 7).trans rfl
  refine skip_ (w1 := ?_) (by rfl) rfl ?_ ?_
  rotate_left
  · (go_simp; rfl)
  refine hK _ _ ⟨blk_far (blk_far KTd.out (p := ⟨g1, 6, none⟩) ng.out _) (p := ⟨g1, 7, none⟩) ng.out _, below_set (below_set BD.out L1.out) L1.out⟩ (fun hHeld => ?_)
  clear hK K
  clear fr c6 c7
  have KLe : Aside0 (((wf.setCell ⟨g1, 6, none⟩ (.int .u64 s.vi)).setCell ⟨g1, 7, none⟩ (.int .u64 s.vm)).heap[g1]? = some (.cells #[.int .i64 k, .int .i64 s.me, .int .i64 n, .int .u64 sq, .int .i64 0, .slice none 0 0, .int .u64 s.vi, .int .u64 s.vm, .int .u64 b, .int .u64 od, .int .u64 ni, .int .u64 nm, .int .u64 cut, .slice none 0 0, .slice none 0 0, .float .f64 0] 40 (0, 0))) := ⟨(blk_put (blk_set KLd.out 6 _) 7 _ rfl)⟩
  replace KTd := Aside0.mk hHeld.1
  replace BD := Aside0.mk hHeld.2
  clear KLd
  generalize ((wf.setCell ⟨g1, 6, none⟩ (.int .u64 s.vi)).setCell ⟨g1, 7, none⟩ (.int .u64 s.vm)) = wg at KLe KTd BD hHeld ⊢
  have KLd := KLe
  clear KLe
  refine done_ (by kernel_rfl) ?_
  clear hHeld
  have hn := HN.out
  have xme := (blk_cell KTd.out 4).trans (tc_me s)
  go_wp2_with (first
    | (refine wpList_load_row rfl 40 (.tmp 5) rfl g1 rfl 40 #[.int .i64 k, .int .i64 s.me, .int .i64 n, .int .u64 sq, .int .i64 0, .slice none 0 0, .int .u64 s.vi, .int .u64 s.vm, .int .u64 b, .int .u64 od, .int .u64 ni, .int .u64 nm, .int .u64 cut, .slice none 0 0, .slice none 0 0, .float .f64 0] (0, 0) _ KLd.out Tryd.underlying40 rfl si40 ?_)
    | (refine slice_event rfl rfl k s.me n sq s.vi s.vm b od ni nm cut rfl ?_; intro g2 hg_ w3 hb_ hB_; have GE := Aside0.mk (show w.heap.size ≤ g2 by rw [hg_]; exact BD.out.size); have KN := Aside0.mk hb_; replace BD := Aside0.mk (below_step BD.out hB_); clear hg_ hb_ hB_))
  go_ret
  exact ⟨g2, rfl, GE.out, KN.out, BD.out⟩
set_option maxRecDepth 100000 in
set_option maxHeartbeats 4000000 in
theorem settled_ok (w : World) (g : Nat) (s : TS) (n : Int) (k f t sq vi vm b od ni nm cut : Int) (hT : TB w g s) (hn : n ≠ s.me) :
    Calls Tryd.prog 52 #[.pointer (some ⟨g, 0, none⟩), .int .i64 n, .int .i64 0, .agg #[.int .i64 k, .int .i64 f, .int .i64 t, .int .u64 sq, .int .i64 0, .slice none 0 0, .int .u64 vi, .int .u64 vm, .int .u64 b, .int .u64 od, .int .u64 ni, .int .u64 nm, .int .u64 cut, .slice none 0 0, .slice none 0 0, .float .f64 0]] w fun e w' => ∃ g2, e = .returned (.tuple #[.slice (some ⟨g2, 0, none⟩) 1 1, .int .i64 0]) ∧ w.heap.size ≤ g2 ∧ w'.heap[g2]? = some (.cells #[.int .i64 k, .int .i64 s.me, .int .i64 n, .int .u64 sq, .int .i64 0, .slice none 0 0, .int .u64 s.vi, .int .u64 s.vm, .int .u64 b, .int .u64 od, .int .u64 ni, .int .u64 nm, .int .u64 cut, .slice none 0 0, .slice none 0 0, .float .f64 0] 40 (0, 0)) ∧ Below w.heap.size w w' := by
  have KT := Aside0.mk hT
  clear hT
  have HN := Aside0.mk hn
  have si40 := si40
  clear hn
  go_enter Tryd.func52, Tryd.ntmps52
  go_wp2_with (first
    | ((with_reducible refine gate_dst (N := 7) rfl ?_); refine box_event ?hg (N := 7) ?hd (cs := #[.int .i64 k, .int .i64 f, .int .i64 t, .int .u64 sq, .int .i64 0, .slice none 0 0, .int .u64 vi, .int .u64 vm, .int .u64 b, .int .u64 od, .int .u64 ni, .int .u64 nm, .int .u64 cut, .slice none 0 0, .slice none 0 0, .float .f64 0]) (t := 40) ?hr ?_; (case hd => rfl); (case hg => rfl); (case hr => first | (go_simp; done) | (go_simp; rfl)); intro g1 hg_ w1 hb_ hB_; have KL := Aside0.mk hb_; have B := Aside0.mk hB_; replace KT := Aside0.mk (blk_below KT.out hB_); clear hg_ hb_ hB_)
    | (refine wpList_load_row rfl 40 (.tmp 7) rfl g1 rfl 40 #[.int .i64 k, .int .i64 f, .int .i64 t, .int .u64 sq, .int .i64 0, .slice none 0 0, .int .u64 vi, .int .u64 vm, .int .u64 b, .int .u64 od, .int .u64 ni, .int .u64 nm, .int .u64 cut, .slice none 0 0, .slice none 0 0, .float .f64 0] (0, 0) _ KL.out Tryd.underlying40 rfl si40 ?_)
    | (go_at_call 67; refine (answer_other _ g s n k f t sq vi vm b od ni nm cut KT.out HN.out).mono ?_; rintro e w9 ⟨g2, rfl, hg, hc, hb⟩; have GE := Aside0.mk (Nat.le_trans B.out.size hg); have KN := Aside0.mk hc; replace B := Aside0.mk (below_step B.out hb); clear hg hc hb))
  go_ret2
  exact ⟨g2, rfl, GE.out, KN.out, B.out⟩
set_option maxRecDepth 100000 in
set_option maxHeartbeats 4000000 in
theorem settled_low (w : World) (g : Nat) (s : TS) (n : Int) (k f t sq vi vm b od ni nm cut : Int) (hT : TB w g s) (hn : n ≠ s.me) :
    Calls Tryd.prog 52 #[.pointer (some ⟨g, 0, none⟩), .int .i64 n, .int .i64 160, .agg #[.int .i64 k, .int .i64 f, .int .i64 t, .int .u64 sq, .int .i64 0, .slice none 0 0, .int .u64 vi, .int .u64 vm, .int .u64 b, .int .u64 od, .int .u64 ni, .int .u64 nm, .int .u64 cut, .slice none 0 0, .slice none 0 0, .float .f64 0]] w fun e w' => ∃ g2, e = .returned (.tuple #[.slice (some ⟨g2, 0, none⟩) 1 1, .int .i64 0]) ∧ w.heap.size ≤ g2 ∧ w'.heap[g2]? = some (.cells #[.int .i64 8, .int .i64 s.me, .int .i64 n, .int .u64 0, .int .i64 0, .slice none 0 0, .int .u64 s.vi, .int .u64 s.vm, .int .u64 s.top, .int .u64 0, .int .u64 0, .int .u64 0, .int .u64 0, .slice none 0 0, .slice none 0 0, .float .f64 0] 40 (0, 0)) ∧ Below w.heap.size w w' := by
  have KT := Aside0.mk hT
  clear hT
  have HN := Aside0.mk hn
  have si40 := si40
  clear hn
  go_enter Tryd.func52, Tryd.ntmps52
  go_wp2_with (first
    | ((with_reducible refine gate_dst (N := 7) rfl ?_); refine box_event ?hg (N := 7) ?hd (cs := #[.int .i64 k, .int .i64 f, .int .i64 t, .int .u64 sq, .int .i64 0, .slice none 0 0, .int .u64 vi, .int .u64 vm, .int .u64 b, .int .u64 od, .int .u64 ni, .int .u64 nm, .int .u64 cut, .slice none 0 0, .slice none 0 0, .float .f64 0]) (t := 40) ?hr ?_; (case hd => rfl); (case hg => rfl); (case hr => first | (go_simp; done) | (go_simp; rfl)); intro g1 hg_ w1 hb_ hB_; have KL := Aside0.mk hb_; have B := Aside0.mk hB_; replace KT := Aside0.mk (blk_below KT.out hB_); clear hg_ hb_ hB_)
    | (go_at_call 36; refine (top_at _ g s KT.out).mono ?_; rintro e w8 ⟨rfl, hb⟩; replace KT := Aside0.mk (blk_below KT.out hb); replace B := Aside0.mk (below_step B.out hb); clear hb)
    | (go_at_call 67; refine (answer_other _ g s n 8 0 0 0 0 0 s.top 0 0 0 0 KT.out HN.out).mono ?_; rintro e w9 ⟨g2, rfl, hg, hc, hb⟩; have GE := Aside0.mk (Nat.le_trans B.out.size hg); have KN := Aside0.mk hc; replace B := Aside0.mk (below_step B.out hb); clear hg hc hb))
  go_ret2
  exact ⟨g2, rfl, GE.out, KN.out, B.out⟩
end Go.Proofs.YtkjjegakfceibaaDoor.B
