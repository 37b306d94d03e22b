/- By hand: tell, when all others are none (printed by chain3.py). -/
import Derived.Test.YtkjjegakfceibaaDoorChain2
import Derived.Test.YtkjjegakfceibaaDoorPick
namespace Go.Proofs.YtkjjegakfceibaaDoor.B
open Go.RowKit Go.Proofs.YtkjjegakfceibaaDoorW.PrintWords Go.Proofs.YtkjjegakfceibaaDoorW.PrintLast Go.Proofs.YtkjjegakfceibaaDoorW.PrintMore
set_option linter.unusedSimpArgs false
set_option linter.unusedVariables false
/-- letters xs come back, the turn is S, all else stays -/
def RQ (w : World) (g : Nat) (S : TS) (xs : List LT) (v : Value) (w' : World) : Prop := kL.R 40 w' w.heap.size (fun _ => True) v xs ∧ TB w' g S ∧ KeepBut w w' g none
theorem rq_from {w w1 w' : World} {g : Nat} {S : TS} {xs : List LT} {v : Value} (hk : KeepBut w w1 g none) (h : RQ w1 g S xs v w') : RQ w g S xs v w' := ⟨Kd.R_lower h.1 hk.1, h.2.1, hk.trans h.2.2 (.inl rfl)⟩
/-- what Hear of a letter does -/
def HearTo (g : Nat) (s S : TS) (cs : Array Value) (xs : List LT) : Prop := ∀ w1, TB w1 g s → TabT w1 → Calls Tryd.prog 9 #[.pointer (some ⟨g, 0, none⟩), .agg cs, .int .u64 s.rc] w1 fun e w' => ∃ v1 v2, e = .returned (.tuple #[v1, v2]) ∧ RQ w1 g S xs v1 w'
set_option maxRecDepth 100000 in
set_option maxHeartbeats 4000000 in
theorem tell_me (w : World) (g : Nat) (s : TS) (k f t sq vi vm b od ni nm cut : Int) (S : TS) (l1 : Int) (xs : List LT) (hT : TB w g s) (hTab : TabT w) (hme : S.me = s.me) (hvm : S.vm = s.vm) (hle1 : band_Less.f s.vm S.me = some l1) (hli1 : band_List.f l1 = some []) (hlen : xs.length ≤ 64)
    (hH : HearTo g s S #[.int .i64 k, .int .i64 s.me, .int .i64 s.me, .int .u64 sq, .int .i64 0, .slice none 0 0, .int .u64 s.vi, .int .u64 s.vm, .int .u64 b, .int .u64 od, .int .u64 ni, .int .u64 nm, .int .u64 cut, .slice none 0 0, .slice none 0 0, .float .f64 0] xs) :
    Calls Tryd.prog 39 #[.pointer (some ⟨g, 0, none⟩), .agg #[.int .i64 k, .int .i64 f, .int .i64 t, .int .u64 sq, .int .i64 0, .slice none 0 0, .int .u64 vi, .int .u64 vm, .int .u64 b, .int .u64 od, .int .u64 ni, .int .u64 nm, .int .u64 cut, .slice none 0 0, .slice none 0 0, .float .f64 0]] w fun e w' => ∃ v, e = .returned v ∧ RQ w g S xs v w' := by
  have KT := Aside0.mk hT
  clear hT
  have HTab := Aside0.mk hTab
  have HMe := Aside0.mk hme
  have HVm := Aside0.mk hvm
  have HLe1 := Aside0.mk hle1
  have HLi1 := Aside0.mk hli1
  have HN := Aside0.mk hlen
  have HH := Aside0.mk hH
  have KT0 := KT
  have GL := Aside0.mk (blk_lt KT.out)
  have si40 := si40
  clear hTab hme hvm hle1 hli1 hlen hH
  go_enter Tryd.func39, Tryd.ntmps39
  go_wp2_with ((with_reducible refine gate_dst (N := 3) rfl ?_); refine box_event ?hg (N := 3) ?hd (cs := #[.int .i64 k, .int .i64 f, .int .i64 t, .int .u64 sq, .int .i64 0, .slice none 0 0, .int .u64 vi, .int .u64 vm, .int .u64 b, .int .u64 od, .int .u64 ni, .int .u64 nm, .int .u64 cut, .slice none 0 0, .slice none 0 0, .float .f64 0]) (t := 40) ?hr ?_; (case hd => rfl); (case hg => rfl); (case hr => first | (go_simp; done) | (go_simp; rfl)); intro g1 hg_ w1 hb_ hB_; have G1 := Aside0.mk hg_; have KL := Aside0.mk hb_; have B1 := Aside0.mk hB_; replace KT := Aside0.mk (blk_below KT.out hB_); clear hg_ hb_ hB_)
  have ng : Aside0 (g ≠ g1) := ⟨blk_ne KT.out KL.out (by decide)⟩
  refine start_ (n := 17) (S := fun w' => w'.heap[g1]? = some (.cells #[.int .i64 k, .int .i64 f, .int .i64 t, .int .u64 sq, .int .i64 0, .slice none 0 0, .int .u64 vi, .int .u64 vm, .int .u64 b, .int .u64 od, .int .u64 ni, .int .u64 nm, .int .u64 cut, .slice none 0 0, .slice none 0 0, .float .f64 0] 40 (0, 0)) ∧ w'.cell? ⟨g, 6, none⟩ = some (.int .u64 s.vm) ∧ w'.cell? ⟨g, 4, none⟩ = some (.int .i64 s.me)) (ds := [15]) #[false, false, false, false, false, false, false, false, false, false, false, false, false, false, false, false, false] (by kernel_rfl) rfl rfl ⟨blk_drew KL.out, (blk_cell (blk_drew KT.out) 6).trans (tc_vm s), (blk_cell (blk_drew KT.out) 4).trans (tc_me s)⟩ (fun hHeld => ?_)
  have KLd := Aside0.mk hHeld.1
  have KTd : Aside0 (w1.drew.heap[g]? = some (.cells (tc s) 81 (0, 0))) := ⟨blk_drew KT.out⟩
  have BD := Aside0.mk (below_drew1 B1.out)
  generalize w1.drew = wd at KTd KLd BD hHeld ⊢
  refine pure_ (i := 0) (N := some 5) (v := ?_) (a' := ?_) #[true, false, false, false, false, false, false, false, false, false, false, false, false, false, false, false, false] rfl rfl (by kernel_rfl) (fun _ _ _ h => h) (Or.inl ⟨by rfl, ?_⟩) ?_ ?_
  rotate_left
  · (intro w'; go_simp; first | done | with_reducible rfl | rfl | (simp [Instr.field, go_sem]; rfl))
  rotate_left
  · (simp only [Act.put, List.setIfInBounds_toArray, List.set_cons_zero, List.set_cons_succ, i64_w, i32_w]; rfl)
  refine pure_ (i := 1) (N := some 6) (v := ?_) (a' := ?_) #[true, true, false, false, false, false, false, false, false, false, false, false, false, false, false, false, false] rfl rfl (by kernel_rfl) (fun _ _ _ h => h) (Or.inl ⟨by rfl, ?_⟩) ?_ ?_
  rotate_left
  · (intro w'; go_simp; first | done | with_reducible rfl | rfl | (simp [Instr.field, go_sem]; rfl))
  rotate_left
  · (simp only [Act.put, List.setIfInBounds_toArray, List.set_cons_zero, List.set_cons_succ, i64_w, i32_w]; rfl)
  refine pure_ (i := 2) (N := some 7) (v := ?_) (a' := ?_) #[true, true, true, false, false, false, false, false, false, false, false, false, false, false, false, false, false] rfl rfl (by kernel_rfl) (fun _ _ _ h => h) (Or.inl ⟨by rfl, ?_⟩) ?_ ?_
  rotate_left
  · (intro w'; go_simp; first | done | with_reducible rfl | rfl | (simp [Instr.field, go_sem]; rfl))
  rotate_left
  · (simp only [Act.put, List.setIfInBounds_toArray, List.set_cons_zero, List.set_cons_succ, i64_w, i32_w]; rfl)
  refine pure_ (i := 3) (N := some 8) (v := ?_) (a' := ?_) #[true, true, true, true, false, false, false, false, false, false, false, false, false, false, false, false, false] rfl rfl (by kernel_rfl) (fun _ _ _ h => h) (Or.inl ⟨by rfl, ?_⟩) ?_ ?_
  rotate_left
  · (intro w'; go_simp; first | done | with_reducible rfl | rfl | (simp [Instr.field, go_sem]; rfl))
  rotate_left
  · (simp only [Act.put, List.setIfInBounds_toArray, List.set_cons_zero, List.set_cons_succ, i64_w, i32_w]; rfl)
  refine take_ (i := 4) (N := some 9) (v := ?_) (a' := ?_) #[true, true, true, true, true, false, false, false, false, false, false, false, false, false, false, false, false] rfl rfl (by kernel_rfl) (fun _ _ _ h => h) (Or.inl ⟨by rfl, ?_⟩) hHeld ?_ ?_
  rotate_left
  · (intro w' s0; have x0 := s0.2.2; go_simp; first | done | with_reducible rfl | rfl | (simp [Instr.field, go_sem]; rfl))
  rotate_left
  · (simp only [Act.put, List.setIfInBounds_toArray, List.set_cons_zero, List.set_cons_succ, i64_w, i32_w]; rfl)
  refine take_ (i := 5) (N := some 10) (v := ?_) (a' := ?_) #[true, true, true, true, true, true, false, false, false, false, false, false, false, false, false, false, false] rfl rfl (by kernel_rfl) (fun _ _ _ h => h) (Or.inl ⟨by rfl, ?_⟩) hHeld ?_ ?_
  rotate_left
  · (intro w' s0; refine row_yields40 (.tmp 3) ?h1 _ ?h2 _ s0.1 si40; (case h1 => rfl); (case h2 => first | rfl | kernel_rfl))
  rotate_left
  · (simp only [Act.put, List.setIfInBounds_toArray, List.set_cons_zero, List.set_cons_succ, i64_w, i32_w]; rfl)
  refine pure_ (i := 7) (N := some 12) (v := ?_) (a' := ?_) #[true, true, true, true, true, true, false, true, false, false, false, false, false, false, false, false, false] rfl rfl (by kernel_rfl) (fun _ _ _ h => h) (Or.inl ⟨by rfl, ?_⟩) ?_ ?_
  rotate_left
  · (intro w'; go_simp; first | done | with_reducible rfl | rfl | (simp [Instr.field, go_sem]; rfl))
  rotate_left
  · (simp only [Act.put, List.setIfInBounds_toArray, List.set_cons_zero, List.set_cons_succ, i64_w, i32_w]; rfl)
  refine take_ (i := 8) (N := some 13) (v := ?_) (a' := ?_) #[true, true, true, true, true, true, false, true, true, false, false, false, false, false, false, false, false] rfl rfl (by kernel_rfl) (fun _ _ _ h => h) (Or.inl ⟨by rfl, ?_⟩) hHeld ?_ ?_
  rotate_left
  · (intro w' s0; refine row_yields40 (.tmp 3) ?h1 _ ?h2 _ s0.1 si40; (case h1 => rfl); (case h2 => first | rfl | kernel_rfl))
  rotate_left
  · (simp only [Act.put, List.setIfInBounds_toArray, List.set_cons_zero, List.set_cons_succ, i64_w, i32_w]; rfl)
  refine pure_ (i := 9) (N := some 14) (v := ?_) (a' := ?_) #[true, true, true, true, true, true, false, true, true, true, false, false, false, false, false, false, false] rfl rfl (by kernel_rfl) (fun _ _ _ h => h) (Or.inl ⟨by rfl, ?_⟩) ?_ ?_
  rotate_left
  · (intro w'; go_simp; first | done | with_reducible rfl | rfl | (simp [Instr.field, go_sem]; rfl))
  rotate_left
  · (simp only [Act.put, List.setIfInBounds_toArray, List.set_cons_zero, List.set_cons_succ, i64_w, i32_w]; rfl)
  refine pure_ (i := 10) (N := some 15) (v := ?_) (a' := ?_) #[true, true, true, true, true, true, false, true, true, true, true, false, false, false, false, false, false] rfl rfl (by kernel_rfl) (fun _ _ _ h => h) (Or.inl ⟨by rfl, ?_⟩) ?_ ?_
  rotate_left
  · (intro w'; go_simp; first | done | with_reducible rfl | rfl | (simp [Instr.field, go_sem]; rfl))
  rotate_left
  · (simp only [Act.put, List.setIfInBounds_toArray, List.set_cons_zero, List.set_cons_succ, i64_w, i32_w]; rfl)
  refine pure_ (i := 11) (N := some 16) (v := ?_) (a' := ?_) #[true, true, true, true, true, true, false, true, true, true, true, true, false, false, false, false, false] rfl rfl (by kernel_rfl) (fun _ _ _ h => h) (Or.inl ⟨by rfl, ?_⟩) ?_ ?_
  rotate_left
  · (intro w'; go_simp; first | done | with_reducible rfl | rfl | (simp [Instr.field, go_sem]; rfl))
  rotate_left
  · (simp only [Act.put, List.setIfInBounds_toArray, List.set_cons_zero, List.set_cons_succ, i64_w, i32_w]; rfl)
  refine pure_ (i := 12) (N := some 17) (v := ?_) (a' := ?_) #[true, true, true, true, true, true, false, true, true, true, true, true, true, false, false, false, false] rfl rfl (by kernel_rfl) (fun _ _ _ h => h) (Or.inl ⟨by rfl, ?_⟩) ?_ ?_
  rotate_left
  · (intro w'; go_simp; first | done | with_reducible rfl | rfl | (simp [Instr.field, go_sem]; rfl))
  rotate_left
  · (simp only [Act.put, List.setIfInBounds_toArray, List.set_cons_zero, List.set_cons_succ, i64_w, i32_w]; rfl)
  refine take_ (i := 13) (N := some 18) (v := ?_) (a' := ?_) #[true, true, true, true, true, true, false, true, true, true, true, true, true, true, false, false, false] rfl rfl (by kernel_rfl) (fun _ _ _ h => h) (Or.inl ⟨by rfl, ?_⟩) hHeld ?_ ?_
  rotate_left
  · (intro w' s0; have x0 := s0.2.1; go_simp; first | done | with_reducible rfl | rfl | (simp [Instr.field, go_sem]; rfl))
  rotate_left
  · (simp only [Act.put, List.setIfInBounds_toArray, List.set_cons_zero, List.set_cons_succ, i64_w, i32_w]; rfl)
  refine one_ (i := 6) (N := some 11) #[true, true, true, true, true, true, true, true, true, true, true, true, true, true, false, false, false] rfl rfl (by kernel_rfl) (by decide) (fun K hK => ?_)
  refine goes_ Tryd.func67 (by kernel_rfl) rfl #[.pointer (some ⟨g, 0, none⟩), .int .i64 s.me, .agg #[.int .i64 k, .int .i64 f, .int .i64 t, .int .u64 sq, .int .i64 0, .slice none 0 0, .int .u64 vi, .int .u64 vm, .int .u64 b, .int .u64 od, .int .u64 ni, .int .u64 nm, .int .u64 cut, .slice none 0 0, .slice none 0 0, .float .f64 0]] (by rfl) rfl rfl (by (try simp only [List.map_toArray, List.map_cons, List.map_nil]); first | done | rfl) ?_
  refine (answer_me _ g s k f t sq vi vm b od ni nm cut (fun v1 _ w' => RQ wd g S xs v1 w') KTd.out (fun w1 ht hk => (HH.out w1 ht (tab_keep HTab.out KT0.out ((KeepBut.of_below BD.out g none).trans hk (.inl rfl)))).mono (fun e w' ⟨v1, v2, he, hq⟩ => ⟨v1, v2, he, rq_from hk hq⟩))).mono ?_
  rintro e wj ⟨v1, v2, rfl, hr, ht, hk⟩
  have HR0 := Aside0.mk (Kd.R_lower hr BD.out.size)
  have KS := Aside0.mk ht
  have KK0 := Aside0.mk ((KeepBut.of_below BD.out g none).trans hk (.inl rfl))
  have KL2 := Aside0.mk (hk.blk KLd.out ng.out.symm (by simp))
  have hHe : wj.heap[g1]? = some (.cells #[.int .i64 k, .int .i64 f, .int .i64 t, .int .u64 sq, .int .i64 0, .slice none 0 0, .int .u64 vi, .int .u64 vm, .int .u64 b, .int .u64 od, .int .u64 ni, .int .u64 nm, .int .u64 cut, .slice none 0 0, .slice none 0 0, .float .f64 0] 40 (0, 0)) ∧ wj.cell? ⟨g, 6, none⟩ = some (.int .u64 s.vm) ∧ wj.cell? ⟨g, 4, none⟩ = some (.int .i64 s.me) := ⟨KL2.out, by rw [← HVm.out]; exact (blk_cell KS.out 6).trans (tc_vm S), by rw [← HMe.out]; exact (blk_cell KS.out 4).trans (tc_me S)⟩
  clear hr ht hk hHeld KTd KLd BD
  refine ⟨_, rfl, ?_⟩
  refine hK _ _ hHe (fun hHeld => ?_)
  clear hK K hHe
  refine norm_ (a' := ?_) ?_ ?_
  rotate_left
  · (show Act.put _ (some 11) _ = _; simp only [Act.put, List.setIfInBounds_toArray, List.set_cons_zero, List.set_cons_succ, i64_w, i32_w]; rfl)
  refine one_ (i := 14) (N := some 19) #[true, true, true, true, true, true, true, true, true, true, true, true, true, true, true, false, false] rfl rfl (by kernel_rfl) (by decide) (fun K hK => ?_)
  refine goes_ Tryd.func42 (by kernel_rfl) rfl #[.pointer (some ⟨g, 0, none⟩), .agg #[.int .i64 k, .int .i64 f, .int .i64 t, .int .u64 sq, .int .i64 0, .slice none 0 0, .int .u64 vi, .int .u64 vm, .int .u64 b, .int .u64 od, .int .u64 ni, .int .u64 nm, .int .u64 cut, .slice none 0 0, .slice none 0 0, .float .f64 0], .int .u64 s.vm] (by rfl) rfl rfl (by (try simp only [List.map_toArray, List.map_cons, List.map_nil]); first | done | rfl) ?_
  refine (to_at _ g S k f t sq vi vm b od ni nm cut s.vm l1 [] KS.out (tab_keep HTab.out KT0.out KK0.out) HLe1.out HLi1.out (by decide)).mono ?_
  rintro e wk ⟨va, rfl, hra, hna, hb⟩
  obtain rfl := hna rfl
  have HR := Aside0.mk (Kd.R_below HR0.out hb)
  have KU := Aside0.mk (blk_below KS.out hb)
  have KK := Aside0.mk (KK0.out.trans (KeepBut.of_below hb g none) (.inl rfl))
  have hHe := (⟨blk_below KL2.out hb, by rw [← HVm.out]; exact (blk_cell KU.out 6).trans (tc_vm S), by rw [← HMe.out]; exact (blk_cell KU.out 4).trans (tc_me S)⟩ : wk.heap[g1]? = some (.cells #[.int .i64 k, .int .i64 f, .int .i64 t, .int .u64 sq, .int .i64 0, .slice none 0 0, .int .u64 vi, .int .u64 vm, .int .u64 b, .int .u64 od, .int .u64 ni, .int .u64 nm, .int .u64 cut, .slice none 0 0, .slice none 0 0, .float .f64 0] 40 (0, 0)) ∧ wk.cell? ⟨g, 6, none⟩ = some (.int .u64 s.vm) ∧ wk.cell? ⟨g, 4, none⟩ = some (.int .i64 s.me))
  clear hra hna hb HR0 KS KK0 KL2 hHeld
  refine ⟨_, rfl, ?_⟩
  refine hK _ _ hHe (fun hHeld => ?_)
  clear hK K hHe
  refine norm_ (a' := ?_) ?_ ?_
  rotate_left
  · (show Act.put _ (some 19) _ = _; simp only [Act.put, List.setIfInBounds_toArray, List.set_cons_zero, List.set_cons_succ, i64_w, i32_w]; rfl)
  refine last_ (i := 15) (N := some 20) #[true, true, true, true, true, true, true, true, true, true, true, true, true, true, true, true, false] rfl rfl (by kernel_rfl) (by decide) (fun K hK => ?_)
  refine Kd.R_append_rows_step kL (w0 := wk) w.heap.size rfl (.tmp 11) (.tmp 19) 31 40 (.agg #[.int .i64 0, .int .i64 0, .int .i64 0, .int .u64 0, .int .i64 0, .slice none 0 0, .int .u64 0, .int .u64 0, .int .u64 0, .int .u64 0, .int .u64 0, .int .u64 0, .int .u64 0, .slice none 0 0, .slice none 0 0, .float .f64 0]) 176 rfl Tryd.underlying31 info40 rfl (by decide) (by decide) v1 xs [] none 0 0 (fun _ => True) (fun _ => False) rfl rfl HR.out (Kd.C_nil kL wk) (fun _ _ h => h) (fun _ h => h.elim) (fun _ _ => trivial) (Below.refl _ _) KK.out.1 (by have := HN.out; omega) ?_
  intro vr w9 hR hb hg hat
  have HRR := Aside0.mk hR
  have BE := Aside0.mk (keep_below KK.out (Nat.le_refl _) hb)
  have KE := Aside0.mk (blk_belowN KU.out GL.out hb)
  clear hR hb hg hat
  refine hK _ _ ?_
  clear hK K
  refine norm_ (a' := ?_) ?_ ?_
  rotate_left
  · (show Act.put _ (some 20) _ = _; simp only [Act.put, List.setIfInBounds_toArray, List.set_cons_zero, List.set_cons_succ, i64_w, i32_w]; rfl)
  refine pure_ (i := 16) (N := some 4) (v := ?_) (a' := ?_) #[true, true, true, true, true, true, true, true, true, true, true, true, true, true, true, true, true] rfl rfl (by kernel_rfl) (fun _ _ _ h => h) (Or.inl ⟨by rfl, ?_⟩) ?_ ?_
  rotate_left
  · (intro w'; go_simp; first | done | with_reducible rfl | rfl | (simp [Instr.field, go_sem]; rfl))
  rotate_left
  · (simp only [Act.put, List.setIfInBounds_toArray, List.set_cons_zero, List.set_cons_succ, i64_w, i32_w]; rfl)
  refine done_ (by kernel_rfl) ?_
  go_wp2
  go_ret
  exact ⟨vr, rfl, by simpa using HRR.out, KE.out, BE.out⟩
end Go.Proofs.YtkjjegakfceibaaDoor.B
