/- By hand: (*Turn).Hear, by the method's contract (printed by hear.py). -/
import Derived.Test.YtkjjegakfceibaaDoorMapF
namespace Go.Proofs.YtkjjegakfceibaaDoor.B
open Go.RowKit Go.Proofs.YtkjjegakfceibaaDoorW.PrintWords Go.Proofs.YtkjjegakfceibaaDoorW.PrintLast Go.Proofs.YtkjjegakfceibaaDoorW.PrintMore
set_option linter.unusedSimpArgs false
set_option linter.unusedVariables false
set_option maxRecDepth 100000 in
set_option maxHeartbeats 4000000 in
theorem hear4 (w : World) (g : Nat) (s : TS) (f sq b od ni nm cut : Int) (r : Int) (Q : Value → Value → World → Prop) (hT : TB w g s) (hf : 0 ≤ f ∧ f < 64) (hm : 0 ≤ s.me ∧ s.me < 64) (hh : band_Has.f s.vm f = some true)
    (hN : ∀ w1, TB w1 g (s.freeze r) → KeepBut w w1 g none → Calls Tryd.prog 24 #[.pointer (some ⟨g, 0, none⟩), .agg #[.int .i64 4, .int .i64 f, .int .i64 s.me, .int .u64 sq, .int .i64 0, .slice none 0 0, .int .u64 s.vi, .int .u64 s.vm, .int .u64 b, .int .u64 od, .int .u64 ni, .int .u64 nm, .int .u64 cut, .slice none 0 0, .slice none 0 0, .float .f64 0]] w1 fun e w' => ∃ v1 v2, e = .returned (.tuple #[v1, v2]) ∧ Q v1 v2 w') :
    Calls Tryd.prog 9 #[.pointer (some ⟨g, 0, none⟩), .agg #[.int .i64 4, .int .i64 f, .int .i64 s.me, .int .u64 sq, .int .i64 0, .slice none 0 0, .int .u64 s.vi, .int .u64 s.vm, .int .u64 b, .int .u64 od, .int .u64 ni, .int .u64 nm, .int .u64 cut, .slice none 0 0, .slice none 0 0, .float .f64 0], .int .u64 r] w fun e w' => ∃ v1 v2, e = .returned (.tuple #[v1, v2]) ∧ Q v1 v2 w' := by
  have KT := Aside0.mk hT
  clear hT
  have HN := Aside0.mk hN
  have HF := Aside0.mk hf
  have HM := Aside0.mk hm
  have HH := Aside0.mk hh
  have si40 := si40
  clear hf hm hh hN
  go_enter Tryd.func9, Tryd.ntmps9
  go_upto_region 3 with (first
    | ((with_reducible refine gate_dst (N := 4) rfl ?_); refine box_event ?hg (N := 4) ?hd (cs := #[.int .i64 4, .int .i64 f, .int .i64 s.me, .int .u64 sq, .int .i64 0, .slice none 0 0, .int .u64 s.vi, .int .u64 s.vm, .int .u64 b, .int .u64 od, .int .u64 ni, .int .u64 nm, .int .u64 cut, .slice none 0 0, .slice none 0 0, .float .f64 0]) (t := 40) ?hr ?_; (case hd => rfl); (case hg => rfl); (case hr => first | (go_simp; done) | (go_simp; rfl)); intro g1 hg_ w1 hb_ hB_; have G1 := Aside0.mk hg_; have KL := Aside0.mk hb_; have B := Aside0.mk hB_; replace KT := Aside0.mk (blk_below KT.out hB_); clear hg_ hb_ hB_)
    | ((with_reducible refine gate_dst (N := 11) rfl ?_); refine map_event rfl (N := 11) rfl ?_; intro gm hg_ w2 hb_ hB_; have GM := Aside0.mk (show w.heap.size ≤ gm by rw [hg_]; exact B.out.size); have n1 := Aside0.mk (show g1 ≠ gm by rw [hg_]; exact Nat.ne_of_lt (blk_lt KL.out)); have n2 := Aside0.mk (show g ≠ gm by rw [hg_]; exact Nat.ne_of_lt (blk_lt KT.out)); have KM := Aside0.mk hb_; replace KL := Aside0.mk (blk_below KL.out hB_); replace KT := Aside0.mk (blk_below KT.out hB_); replace B := Aside0.mk (below_step B.out hB_); clear hg_ hb_ hB_)
    | ((with_reducible refine gate_insert 4 rfl ?_); refine insert_event rfl 4 rfl gm rfl (.func (.func 24) #[.pointer (some ⟨g, 0, none⟩)] #[]) rfl #[] 0 KM.out (by rfl) ?_; intro w14 hb_ hB_ ho_; replace KM := Aside0.mk hb_; replace KL : Aside0 (w14.heap[g1]? = some (.cells #[.int .i64 4, .int .i64 f, .int .i64 s.me, .int .u64 sq, .int .i64 0, .slice none 0 0, .int .u64 s.vi, .int .u64 s.vm, .int .u64 b, .int .u64 od, .int .u64 ni, .int .u64 nm, .int .u64 cut, .slice none 0 0, .slice none 0 0, .float .f64 0] 40 (0, 0))) := ⟨(ho_ g1 n1.out).trans KL.out⟩; replace KT : Aside0 (w14.heap[g]? = some (.cells (tc s) 81 (0, 0))) := ⟨(ho_ g n2.out).trans KT.out⟩; replace B := Aside0.mk (B.out.trans (hB_.mono GM.out)); clear hb_ hB_ ho_; have xk4 := (blk_cell KL.out 0).trans rfl)
    | ((with_reducible refine gate_insert 5 rfl ?_); refine insert_event rfl 5 rfl gm rfl (.func (.func 25) #[.pointer (some ⟨g, 0, none⟩)] #[]) rfl (#[].push { key := .int .i64 4, val := .func (.func 24) #[.pointer (some ⟨g, 0, none⟩)] #[], born := 0 }) 1 KM.out (by rfl) ?_; intro w15 hb_ hB_ ho_; replace KM := Aside0.mk hb_; replace KL : Aside0 (w15.heap[g1]? = some (.cells #[.int .i64 4, .int .i64 f, .int .i64 s.me, .int .u64 sq, .int .i64 0, .slice none 0 0, .int .u64 s.vi, .int .u64 s.vm, .int .u64 b, .int .u64 od, .int .u64 ni, .int .u64 nm, .int .u64 cut, .slice none 0 0, .slice none 0 0, .float .f64 0] 40 (0, 0))) := ⟨(ho_ g1 n1.out).trans KL.out⟩; replace KT : Aside0 (w15.heap[g]? = some (.cells (tc s) 81 (0, 0))) := ⟨(ho_ g n2.out).trans KT.out⟩; replace B := Aside0.mk (B.out.trans (hB_.mono GM.out)); clear hb_ hB_ ho_; have xk5 := (blk_cell KL.out 0).trans rfl)
    | ((with_reducible refine gate_insert 6 rfl ?_); refine insert_event rfl 6 rfl gm rfl (.func (.func 26) #[.pointer (some ⟨g, 0, none⟩)] #[]) rfl ((#[].push { key := .int .i64 4, val := .func (.func 24) #[.pointer (some ⟨g, 0, none⟩)] #[], born := 0 }).push { key := .int .i64 5, val := .func (.func 25) #[.pointer (some ⟨g, 0, none⟩)] #[], born := 1 }) 2 KM.out (by rfl) ?_; intro w16 hb_ hB_ ho_; replace KM := Aside0.mk hb_; replace KL : Aside0 (w16.heap[g1]? = some (.cells #[.int .i64 4, .int .i64 f, .int .i64 s.me, .int .u64 sq, .int .i64 0, .slice none 0 0, .int .u64 s.vi, .int .u64 s.vm, .int .u64 b, .int .u64 od, .int .u64 ni, .int .u64 nm, .int .u64 cut, .slice none 0 0, .slice none 0 0, .float .f64 0] 40 (0, 0))) := ⟨(ho_ g1 n1.out).trans KL.out⟩; replace KT : Aside0 (w16.heap[g]? = some (.cells (tc s) 81 (0, 0))) := ⟨(ho_ g n2.out).trans KT.out⟩; replace B := Aside0.mk (B.out.trans (hB_.mono GM.out)); clear hb_ hB_ ho_; have xk6 := (blk_cell KL.out 0).trans rfl)
    | ((with_reducible refine gate_insert 7 rfl ?_); refine insert_event rfl 7 rfl gm rfl (.func (.func 27) #[.pointer (some ⟨g, 0, none⟩)] #[]) rfl (((#[].push { key := .int .i64 4, val := .func (.func 24) #[.pointer (some ⟨g, 0, none⟩)] #[], born := 0 }).push { key := .int .i64 5, val := .func (.func 25) #[.pointer (some ⟨g, 0, none⟩)] #[], born := 1 }).push { key := .int .i64 6, val := .func (.func 26) #[.pointer (some ⟨g, 0, none⟩)] #[], born := 2 }) 3 KM.out (by rfl) ?_; intro w17 hb_ hB_ ho_; replace KM := Aside0.mk hb_; replace KL : Aside0 (w17.heap[g1]? = some (.cells #[.int .i64 4, .int .i64 f, .int .i64 s.me, .int .u64 sq, .int .i64 0, .slice none 0 0, .int .u64 s.vi, .int .u64 s.vm, .int .u64 b, .int .u64 od, .int .u64 ni, .int .u64 nm, .int .u64 cut, .slice none 0 0, .slice none 0 0, .float .f64 0] 40 (0, 0))) := ⟨(ho_ g1 n1.out).trans KL.out⟩; replace KT : Aside0 (w17.heap[g]? = some (.cells (tc s) 81 (0, 0))) := ⟨(ho_ g n2.out).trans KT.out⟩; replace B := Aside0.mk (B.out.trans (hB_.mono GM.out)); clear hb_ hB_ ho_; have xk7 := (blk_cell KL.out 0).trans rfl)
    | ((with_reducible refine gate_insert 8 rfl ?_); refine insert_event rfl 8 rfl gm rfl (.func (.func 28) #[.pointer (some ⟨g, 0, none⟩)] #[]) rfl ((((#[].push { key := .int .i64 4, val := .func (.func 24) #[.pointer (some ⟨g, 0, none⟩)] #[], born := 0 }).push { key := .int .i64 5, val := .func (.func 25) #[.pointer (some ⟨g, 0, none⟩)] #[], born := 1 }).push { key := .int .i64 6, val := .func (.func 26) #[.pointer (some ⟨g, 0, none⟩)] #[], born := 2 }).push { key := .int .i64 7, val := .func (.func 27) #[.pointer (some ⟨g, 0, none⟩)] #[], born := 3 }) 4 KM.out (by rfl) ?_; intro w18 hb_ hB_ ho_; replace KM := Aside0.mk hb_; replace KL : Aside0 (w18.heap[g1]? = some (.cells #[.int .i64 4, .int .i64 f, .int .i64 s.me, .int .u64 sq, .int .i64 0, .slice none 0 0, .int .u64 s.vi, .int .u64 s.vm, .int .u64 b, .int .u64 od, .int .u64 ni, .int .u64 nm, .int .u64 cut, .slice none 0 0, .slice none 0 0, .float .f64 0] 40 (0, 0))) := ⟨(ho_ g1 n1.out).trans KL.out⟩; replace KT : Aside0 (w18.heap[g]? = some (.cells (tc s) 81 (0, 0))) := ⟨(ho_ g n2.out).trans KT.out⟩; replace B := Aside0.mk (B.out.trans (hB_.mono GM.out)); clear hb_ hB_ ho_; have xk8 := (blk_cell KL.out 0).trans rfl)
    | ((with_reducible refine gate_insert 9 rfl ?_); refine insert_event rfl 9 rfl gm rfl (.func (.func 29) #[.pointer (some ⟨g, 0, none⟩)] #[]) rfl (((((#[].push { key := .int .i64 4, val := .func (.func 24) #[.pointer (some ⟨g, 0, none⟩)] #[], born := 0 }).push { key := .int .i64 5, val := .func (.func 25) #[.pointer (some ⟨g, 0, none⟩)] #[], born := 1 }).push { key := .int .i64 6, val := .func (.func 26) #[.pointer (some ⟨g, 0, none⟩)] #[], born := 2 }).push { key := .int .i64 7, val := .func (.func 27) #[.pointer (some ⟨g, 0, none⟩)] #[], born := 3 }).push { key := .int .i64 8, val := .func (.func 28) #[.pointer (some ⟨g, 0, none⟩)] #[], born := 4 }) 5 KM.out (by rfl) ?_; intro w19 hb_ hB_ ho_; replace KM := Aside0.mk hb_; replace KL : Aside0 (w19.heap[g1]? = some (.cells #[.int .i64 4, .int .i64 f, .int .i64 s.me, .int .u64 sq, .int .i64 0, .slice none 0 0, .int .u64 s.vi, .int .u64 s.vm, .int .u64 b, .int .u64 od, .int .u64 ni, .int .u64 nm, .int .u64 cut, .slice none 0 0, .slice none 0 0, .float .f64 0] 40 (0, 0))) := ⟨(ho_ g1 n1.out).trans KL.out⟩; replace KT : Aside0 (w19.heap[g]? = some (.cells (tc s) 81 (0, 0))) := ⟨(ho_ g n2.out).trans KT.out⟩; replace B := Aside0.mk (B.out.trans (hB_.mono GM.out)); clear hb_ hB_ ho_; have xk9 := (blk_cell KL.out 0).trans rfl)
    | ((with_reducible refine gate_dst (N := 29) rfl ?_); refine lookup_event rfl rfl gm rfl 4 rfl ((((((#[].push { key := .int .i64 4, val := .func (.func 24) #[.pointer (some ⟨g, 0, none⟩)] #[], born := 0 }).push { key := .int .i64 5, val := .func (.func 25) #[.pointer (some ⟨g, 0, none⟩)] #[], born := 1 }).push { key := .int .i64 6, val := .func (.func 26) #[.pointer (some ⟨g, 0, none⟩)] #[], born := 2 }).push { key := .int .i64 7, val := .func (.func 27) #[.pointer (some ⟨g, 0, none⟩)] #[], born := 3 }).push { key := .int .i64 8, val := .func (.func 28) #[.pointer (some ⟨g, 0, none⟩)] #[], born := 4 }).push { key := .int .i64 9, val := .func (.func 29) #[.pointer (some ⟨g, 0, none⟩)] #[], born := 5 }) 6 KM.out 0 (.func (.func 24) #[.pointer (some ⟨g, 0, none⟩)] #[]) (by rfl) ?_))
  clear KM n1 n2
  refine start_ (n := 29) (S := fun w' => Below w19.drew.heap.size w19.drew w') (ds := []) #[false, false, false, false, false, false, false, false, false, false, false, false, false, false, false, false, false, false, false, false, false, false, false, false, false, false, false, false, false] (by kernel_rfl) rfl rfl (Below.refl _ _) (fun hHeld => ?_)
  have KLd := Aside0.mk (blk_drew KL.out)
  have KTd : Aside0 (w19.drew.heap[g]? = some (.cells (tc s) 81 (0, 0))) := ⟨blk_drew KT.out⟩
  have BD := Aside0.mk (below_drew1 B.out)
  generalize w19.drew = wd at KTd KLd BD hHeld ⊢
  refine take_ (i := 0) (N := some 33) (v := ?_) (a' := ?_) #[true, false, false, false, false, false, false, false, false, false, false, false, false, false, false, false, false, false, false, false, false, false, false, false, false, false, false, false, false] rfl rfl (by kernel_rfl) (fun _ _ _ h => h) (Or.inl ⟨by rfl, ?_⟩) hHeld ?_ ?_
  rotate_left
  · (intro w' s0; refine row_yields40 (.tmp 4) ?h1 _ ?h2 _ (blk_below KLd.out s0) si40; (case h1 => rfl); (case h2 => first | rfl | kernel_rfl))
  rotate_left
  · (simp only [Act.put, List.setIfInBounds_toArray, List.set_cons_zero, List.set_cons_succ, i64_w, i32_w]; rfl)
  refine one_ (i := 1) (N := some 34) #[true, true, false, false, false, false, false, false, false, false, false, false, false, false, false, false, false, false, false, false, false, false, false, false, false, false, false, false, false] rfl rfl (by kernel_rfl) (by decide) (fun K hK => ?_)
  refine goes_ Tryd.func30 (by kernel_rfl) rfl #[.agg #[.int .i64 4, .int .i64 f, .int .i64 s.me, .int .u64 sq, .int .i64 0, .slice none 0 0, .int .u64 s.vi, .int .u64 s.vm, .int .u64 b, .int .u64 od, .int .u64 ni, .int .u64 nm, .int .u64 cut, .slice none 0 0, .slice none 0 0, .float .f64 0]] (by rfl) rfl rfl (by (try simp only [List.map_toArray, List.map_cons, List.map_nil]); first | done | rfl) ?_
  refine (may_yes 4 f s.me sq s.vi s.vm b od ni nm cut _ (by decide) HF.out HM.out).mono ?_
  rintro e wa ⟨rfl, hb⟩
  have hHe := below_step hHeld hb
  clear hHeld
  clear hb
  refine ⟨_, rfl, ?_⟩
  refine hK _ _ hHe (fun hHeld => ?_)
  clear hK K hHe
  refine norm_ (a' := ?_) ?_ ?_
  rotate_left
  · (show Act.put _ (some 34) _ = _; simp only [Act.put, List.setIfInBounds_toArray, List.set_cons_zero, List.set_cons_succ, i64_w, i32_w]; rfl)
  refine pure_ (i := 2) (N := some 35) (v := .bool false) (a' := ?_) #[true, true, true, false, false, false, false, false, false, false, false, false, false, false, false, false, false, false, false, false, false, false, false, false, false, false, false, false, false] rfl rfl (by kernel_rfl) (fun _ _ _ h => h) (Or.inl ⟨by rfl, ?_⟩) ?_ ?_
  · (intro w'; go_simp; first | done | with_reducible rfl | rfl | (simp [Instr.field, go_sem]; rfl) | simp)
  rotate_left
  · (simp only [Act.put, List.setIfInBounds_toArray, List.set_cons_zero, List.set_cons_succ, i64_w, i32_w]; rfl)
  refine pure_ (i := 3) (N := some 36) (v := .bool false) (a' := ?_) #[true, true, true, true, false, false, false, false, false, false, false, false, false, false, false, false, false, false, false, false, false, false, false, false, false, false, false, false, false] rfl rfl (by kernel_rfl) (fun _ _ _ h => h) (Or.inl ⟨by rfl, ?_⟩) ?_ ?_
  · (intro w'; go_simp; first | done | with_reducible rfl | rfl | (simp [Instr.field, go_sem]; rfl) | simp)
  rotate_left
  · (simp only [Act.put, List.setIfInBounds_toArray, List.set_cons_zero, List.set_cons_succ, i64_w, i32_w]; rfl)
  refine pure_ (i := 4) (N := some 37) (v := ?_) (a' := ?_) #[true, true, true, true, true, false, false, false, false, false, false, false, false, false, false, false, false, false, false, false, false, false, false, false, false, false, false, false, false] rfl rfl (by kernel_rfl) (fun _ _ _ h => h) (Or.inl ⟨by rfl, ?_⟩) ?_ ?_
  rotate_left
  · (intro w'; go_simp; first | done | with_reducible rfl | rfl | (simp [Instr.field, go_sem]; rfl))
  rotate_left
  · (simp only [Act.put, List.setIfInBounds_toArray, List.set_cons_zero, List.set_cons_succ, i64_w, i32_w]; rfl)
  refine take_ (i := 5) (N := some 38) (v := ?_) (a' := ?_) #[true, true, true, true, true, true, false, false, false, false, false, false, false, false, false, false, false, false, false, false, false, false, false, false, false, false, false, false, false] rfl rfl (by kernel_rfl) (fun _ _ _ h => h) (Or.inl ⟨by rfl, ?_⟩) hHeld ?_ ?_
  rotate_left
  · (intro w' s0; have x0 := (blk_cell (blk_below KLd.out s0) 2).trans rfl; go_simp; first | done | with_reducible rfl | rfl | (simp [Instr.field, go_sem]; rfl))
  rotate_left
  · (simp only [Act.put, List.setIfInBounds_toArray, List.set_cons_zero, List.set_cons_succ, i64_w, i32_w]; rfl)
  refine pure_ (i := 6) (N := some 39) (v := ?_) (a' := ?_) #[true, true, true, true, true, true, true, false, false, false, false, false, false, false, false, false, false, false, false, false, false, false, false, false, false, false, false, false, false] rfl rfl (by kernel_rfl) (fun _ _ _ h => h) (Or.inl ⟨by rfl, ?_⟩) ?_ ?_
  rotate_left
  · (intro w'; go_simp; first | done | with_reducible rfl | rfl | (simp [Instr.field, go_sem]; rfl))
  rotate_left
  · (simp only [Act.put, List.setIfInBounds_toArray, List.set_cons_zero, List.set_cons_succ, i64_w, i32_w]; rfl)
  refine pure_ (i := 7) (N := some 40) (v := ?_) (a' := ?_) #[true, true, true, true, true, true, true, true, false, false, false, false, false, false, false, false, false, false, false, false, false, false, false, false, false, false, false, false, false] rfl rfl (by kernel_rfl) (fun _ _ _ h => h) (Or.inl ⟨by rfl, ?_⟩) ?_ ?_
  rotate_left
  · (intro w'; go_simp; first | done | with_reducible rfl | rfl | (simp [Instr.field, go_sem]; rfl))
  rotate_left
  · (simp only [Act.put, List.setIfInBounds_toArray, List.set_cons_zero, List.set_cons_succ, i64_w, i32_w]; rfl)
  refine pure_ (i := 8) (N := some 41) (v := ?_) (a' := ?_) #[true, true, true, true, true, true, true, true, true, false, false, false, false, false, false, false, false, false, false, false, false, false, false, false, false, false, false, false, false] rfl rfl (by kernel_rfl) (fun _ _ _ h => h) (Or.inl ⟨by rfl, ?_⟩) ?_ ?_
  rotate_left
  · (intro w'; go_simp; first | done | with_reducible rfl | rfl | (simp [Instr.field, go_sem]; rfl))
  rotate_left
  · (simp only [Act.put, List.setIfInBounds_toArray, List.set_cons_zero, List.set_cons_succ, i64_w, i32_w]; rfl)
  refine take_ (i := 9) (N := some 42) (v := ?_) (a' := ?_) #[true, true, true, true, true, true, true, true, true, true, false, false, false, false, false, false, false, false, false, false, false, false, false, false, false, false, false, false, false] rfl rfl (by kernel_rfl) (fun _ _ _ h => h) (Or.inl ⟨by rfl, ?_⟩) hHeld ?_ ?_
  rotate_left
  · (intro w' s0; have x0 := (blk_cell (blk_below KTd.out s0) 4).trans (tc_me _); go_simp; first | done | with_reducible rfl | rfl | (simp [Instr.field, go_sem]; rfl))
  rotate_left
  · (simp only [Act.put, List.setIfInBounds_toArray, List.set_cons_zero, List.set_cons_succ, i64_w, i32_w]; rfl)
  refine pure_ (i := 10) (N := some 43) (v := .bool false) (a' := ?_) #[true, true, true, true, true, true, true, true, true, true, true, false, false, false, false, false, false, false, false, false, false, false, false, false, false, false, false, false, false] rfl rfl (by kernel_rfl) (fun _ _ _ h => h) (Or.inl ⟨by rfl, ?_⟩) ?_ ?_
  · (intro w'; go_simp; first | done | with_reducible rfl | rfl | (simp [Instr.field, go_sem]; rfl) | simp)
  rotate_left
  · (simp only [Act.put, List.setIfInBounds_toArray, List.set_cons_zero, List.set_cons_succ, i64_w, i32_w]; rfl)
  refine pure_ (i := 11) (N := some 44) (v := .bool false) (a' := ?_) #[true, true, true, true, true, true, true, true, true, true, true, true, false, false, false, false, false, false, false, false, false, false, false, false, false, false, false, false, false] rfl rfl (by kernel_rfl) (fun _ _ _ h => h) (Or.inl ⟨by rfl, ?_⟩) ?_ ?_
  · (intro w'; go_simp; first | done | with_reducible rfl | rfl | (simp [Instr.field, go_sem]; rfl) | simp)
  rotate_left
  · (simp only [Act.put, List.setIfInBounds_toArray, List.set_cons_zero, List.set_cons_succ, i64_w, i32_w]; rfl)
  refine pure_ (i := 12) (N := some 45) (v := .bool false) (a' := ?_) #[true, true, true, true, true, true, true, true, true, true, true, true, true, false, false, false, false, false, false, false, false, false, false, false, false, false, false, false, false] rfl rfl (by kernel_rfl) (fun _ _ _ h => h) (Or.inl ⟨by rfl, ?_⟩) ?_ ?_
  · (intro w'; go_simp; first | done | with_reducible rfl | rfl | (simp [Instr.field, go_sem]; rfl) | simp)
  rotate_left
  · (simp only [Act.put, List.setIfInBounds_toArray, List.set_cons_zero, List.set_cons_succ, i64_w, i32_w]; rfl)
  refine pure_ (i := 13) (N := some 46) (v := ?_) (a' := ?_) #[true, true, true, true, true, true, true, true, true, true, true, true, true, true, false, false, false, false, false, false, false, false, false, false, false, false, false, false, false] rfl rfl (by kernel_rfl) (fun _ _ _ h => h) (Or.inl ⟨by rfl, ?_⟩) ?_ ?_
  rotate_left
  · (intro w'; go_simp; first | done | with_reducible rfl | rfl | (simp [Instr.field, go_sem]; rfl))
  rotate_left
  · (simp only [Act.put, List.setIfInBounds_toArray, List.set_cons_zero, List.set_cons_succ, i64_w, i32_w]; rfl)
  refine take_ (i := 14) (N := some 47) (v := ?_) (a' := ?_) #[true, true, true, true, true, true, true, true, true, true, true, true, true, true, true, false, false, false, false, false, false, false, false, false, false, false, false, false, false] rfl rfl (by kernel_rfl) (fun _ _ _ h => h) (Or.inl ⟨by rfl, ?_⟩) hHeld ?_ ?_
  rotate_left
  · (intro w' s0; have x0 := (blk_cell (blk_below KLd.out s0) 0).trans rfl; go_simp; first | done | with_reducible rfl | rfl | (simp [Instr.field, go_sem]; rfl))
  rotate_left
  · (simp only [Act.put, List.setIfInBounds_toArray, List.set_cons_zero, List.set_cons_succ, i64_w, i32_w]; rfl)
  refine pure_ (i := 15) (N := some 48) (v := .bool true) (a' := ?_) #[true, true, true, true, true, true, true, true, true, true, true, true, true, true, true, true, false, false, false, false, false, false, false, false, false, false, false, false, false] rfl rfl (by kernel_rfl) (fun _ _ _ h => h) (Or.inl ⟨by rfl, ?_⟩) ?_ ?_
  · (intro w'; go_simp; first | done | with_reducible rfl | rfl | (simp [Instr.field, go_sem]; rfl) | simp)
  rotate_left
  · (simp only [Act.put, List.setIfInBounds_toArray, List.set_cons_zero, List.set_cons_succ, i64_w, i32_w]; rfl)
  refine pure_ (i := 16) (N := some 49) (v := .bool true) (a' := ?_) #[true, true, true, true, true, true, true, true, true, true, true, true, true, true, true, true, true, false, false, false, false, false, false, false, false, false, false, false, false] rfl rfl (by kernel_rfl) (fun _ _ _ h => h) (Or.inl ⟨by rfl, ?_⟩) ?_ ?_
  · (intro w'; go_simp; first | done | with_reducible rfl | rfl | (simp [Instr.field, go_sem]; rfl) | simp)
  rotate_left
  · (simp only [Act.put, List.setIfInBounds_toArray, List.set_cons_zero, List.set_cons_succ, i64_w, i32_w]; rfl)
  refine pure_ (i := 17) (N := some 50) (v := ?_) (a' := ?_) #[true, true, true, true, true, true, true, true, true, true, true, true, true, true, true, true, true, true, false, false, false, false, false, false, false, false, false, false, false] rfl rfl (by kernel_rfl) (fun _ _ _ h => h) (Or.inl ⟨by rfl, ?_⟩) ?_ ?_
  rotate_left
  · (intro w'; go_simp; first | done | with_reducible rfl | rfl | (simp [Instr.field, go_sem]; rfl))
  rotate_left
  · (simp only [Act.put, List.setIfInBounds_toArray, List.set_cons_zero, List.set_cons_succ, i64_w, i32_w]; rfl)
  refine pure_ (i := 18) (N := some 51) (v := ?_) (a' := ?_) #[true, true, true, true, true, true, true, true, true, true, true, true, true, true, true, true, true, true, true, false, false, false, false, false, false, false, false, false, false] rfl rfl (by kernel_rfl) (fun _ _ _ h => h) (Or.inl ⟨by rfl, ?_⟩) ?_ ?_
  rotate_left
  · (intro w'; go_simp; first | done | with_reducible rfl | rfl | (simp [Instr.field, go_sem]; rfl))
  rotate_left
  · (simp only [Act.put, List.setIfInBounds_toArray, List.set_cons_zero, List.set_cons_succ, i64_w, i32_w]; rfl)
  refine pure_ (i := 19) (N := some 52) (v := ?_) (a' := ?_) #[true, true, true, true, true, true, true, true, true, true, true, true, true, true, true, true, true, true, true, true, false, false, false, false, false, false, false, false, false] rfl rfl (by kernel_rfl) (fun _ _ _ h => h) (Or.inl ⟨by rfl, ?_⟩) ?_ ?_
  rotate_left
  · (intro w'; go_simp; first | done | with_reducible rfl | rfl | (simp [Instr.field, go_sem]; rfl))
  rotate_left
  · (simp only [Act.put, List.setIfInBounds_toArray, List.set_cons_zero, List.set_cons_succ, i64_w, i32_w]; rfl)
  refine pure_ (i := 20) (N := some 53) (v := ?_) (a' := ?_) #[true, true, true, true, true, true, true, true, true, true, true, true, true, true, true, true, true, true, true, true, true, false, false, false, false, false, false, false, false] rfl rfl (by kernel_rfl) (fun _ _ _ h => h) (Or.inl ⟨by rfl, ?_⟩) ?_ ?_
  rotate_left
  · (intro w'; go_simp; first | done | with_reducible rfl | rfl | (simp [Instr.field, go_sem]; rfl))
  rotate_left
  · (simp only [Act.put, List.setIfInBounds_toArray, List.set_cons_zero, List.set_cons_succ, i64_w, i32_w]; rfl)
  refine take_ (i := 21) (N := some 54) (v := ?_) (a' := ?_) #[true, true, true, true, true, true, true, true, true, true, true, true, true, true, true, true, true, true, true, true, true, true, false, false, false, false, false, false, false] rfl rfl (by kernel_rfl) (fun _ _ _ h => h) (Or.inl ⟨by rfl, ?_⟩) hHeld ?_ ?_
  rotate_left
  · (intro w' s0; have x0 := (blk_cell (blk_below KTd.out s0) 6).trans (tc_vm _); go_simp; first | done | with_reducible rfl | rfl | (simp [Instr.field, go_sem]; rfl))
  rotate_left
  · (simp only [Act.put, List.setIfInBounds_toArray, List.set_cons_zero, List.set_cons_succ, i64_w, i32_w]; rfl)
  refine pure_ (i := 22) (N := some 55) (v := ?_) (a' := ?_) #[true, true, true, true, true, true, true, true, true, true, true, true, true, true, true, true, true, true, true, true, true, true, true, false, false, false, false, false, false] rfl rfl (by kernel_rfl) (fun _ _ _ h => h) (Or.inl ⟨by rfl, ?_⟩) ?_ ?_
  rotate_left
  · (intro w'; go_simp; first | done | with_reducible rfl | rfl | (simp [Instr.field, go_sem]; rfl))
  rotate_left
  · (simp only [Act.put, List.setIfInBounds_toArray, List.set_cons_zero, List.set_cons_succ, i64_w, i32_w]; rfl)
  refine take_ (i := 23) (N := some 56) (v := ?_) (a' := ?_) #[true, true, true, true, true, true, true, true, true, true, true, true, true, true, true, true, true, true, true, true, true, true, true, true, false, false, false, false, false] rfl rfl (by kernel_rfl) (fun _ _ _ h => h) (Or.inl ⟨by rfl, ?_⟩) hHeld ?_ ?_
  rotate_left
  · (intro w' s0; have x0 := (blk_cell (blk_below KLd.out s0) 1).trans rfl; go_simp; first | done | with_reducible rfl | rfl | (simp [Instr.field, go_sem]; rfl))
  rotate_left
  · (simp only [Act.put, List.setIfInBounds_toArray, List.set_cons_zero, List.set_cons_succ, i64_w, i32_w]; rfl)
  refine one_ (i := 24) (N := some 57) #[true, true, true, true, true, true, true, true, true, true, true, true, true, true, true, true, true, true, true, true, true, true, true, true, true, false, false, false, false] rfl rfl (by kernel_rfl) (by decide) (fun K hK => ?_)
  refine goes_ Tryd.func23 (by kernel_rfl) rfl #[.int .u64 s.vm, .int .i64 f] (by rfl) rfl rfl (by (try simp only [List.map_toArray, List.map_cons, List.map_nil]); first | done | rfl) ?_
  refine (band_Has.calls s.vm f true _ HH.out).mono ?_
  rintro e wb ⟨rfl, hd⟩
  have hHe := below_step hHeld (Drawn0.below hd)
  clear hHeld hd
  refine ⟨_, rfl, ?_⟩
  refine hK _ _ hHe (fun hHeld => ?_)
  clear hK K hHe
  refine norm_ (a' := ?_) ?_ ?_
  rotate_left
  · (show Act.put _ (some 57) _ = _; simp only [Act.put, List.setIfInBounds_toArray, List.set_cons_zero, List.set_cons_succ, i64_w, i32_w]; rfl)
  refine pure_ (i := 25) (N := some 58) (v := .bool false) (a' := ?_) #[true, true, true, true, true, true, true, true, true, true, true, true, true, true, true, true, true, true, true, true, true, true, true, true, true, true, false, false, false] rfl rfl (by kernel_rfl) (fun _ _ _ h => h) (Or.inl ⟨by rfl, ?_⟩) ?_ ?_
  · (intro w'; go_simp; first | done | with_reducible rfl | rfl | (simp [Instr.field, go_sem]; rfl) | simp)
  rotate_left
  · (simp only [Act.put, List.setIfInBounds_toArray, List.set_cons_zero, List.set_cons_succ, i64_w, i32_w]; rfl)
  refine pure_ (i := 26) (N := some 59) (v := .bool false) (a' := ?_) #[true, true, true, true, true, true, true, true, true, true, true, true, true, true, true, true, true, true, true, true, true, true, true, true, true, true, true, false, false] rfl rfl (by kernel_rfl) (fun _ _ _ h => h) (Or.inl ⟨by rfl, ?_⟩) ?_ ?_
  · (intro w'; go_simp; first | done | with_reducible rfl | rfl | (simp [Instr.field, go_sem]; rfl) | simp)
  rotate_left
  · (simp only [Act.put, List.setIfInBounds_toArray, List.set_cons_zero, List.set_cons_succ, i64_w, i32_w]; rfl)
  refine pure_ (i := 27) (N := some 60) (v := .bool false) (a' := ?_) #[true, true, true, true, true, true, true, true, true, true, true, true, true, true, true, true, true, true, true, true, true, true, true, true, true, true, true, true, false] rfl rfl (by kernel_rfl) (fun _ _ _ h => h) (Or.inl ⟨by rfl, ?_⟩) ?_ ?_
  · (intro w'; go_simp; first | done | with_reducible rfl | rfl | (simp [Instr.field, go_sem]; rfl) | simp)
  rotate_left
  · (simp only [Act.put, List.setIfInBounds_toArray, List.set_cons_zero, List.set_cons_succ, i64_w, i32_w]; rfl)
  refine pure_ (i := 28) (N := some 32) (v := .bool false) (a' := ?_) #[true, true, true, true, true, true, true, true, true, true, true, true, true, true, true, true, true, true, true, true, true, true, true, true, true, true, true, true, true] rfl rfl (by kernel_rfl) (fun _ _ _ h => h) (Or.inl ⟨by rfl, ?_⟩) ?_ ?_
  · (intro w'; go_simp; first | done | with_reducible rfl | rfl | (simp [Instr.field, go_sem]; rfl) | simp)
  rotate_left
  · (simp only [Act.put, List.setIfInBounds_toArray, List.set_cons_zero, List.set_cons_succ, i64_w, i32_w]; rfl)
  refine done_ (by kernel_rfl) ?_
  replace B := Aside0.mk (below_step BD.out hHeld)
  replace KL := Aside0.mk (blk_below KLd.out hHeld)
  replace KT := Aside0.mk (blk_below KTd.out hHeld)
  clear hHeld KLd KTd BD
  rename World => wq
  go_wp2
  refine start_ (n := 8) (S := fun w' => Below wq.drew.heap.size wq.drew w') (ds := []) #[false, false, false, false, false, false, false, false] (by kernel_rfl) rfl rfl (Below.refl _ _) (fun hHeld => ?_)
  have KLd := Aside0.mk (blk_drew KL.out)
  have KTd : Aside0 (wq.drew.heap[g]? = some (.cells (tc s) 81 (0, 0))) := ⟨blk_drew KT.out⟩
  have BD := Aside0.mk (below_drew1 B.out)
  generalize wq.drew = we at KTd KLd BD hHeld ⊢
  refine pure_ (i := 0) (N := some 62) (v := ?_) (a' := ?_) #[true, false, false, false, false, false, false, false] rfl rfl (by kernel_rfl) (fun _ _ _ h => h) (Or.inl ⟨by rfl, ?_⟩) ?_ ?_
  rotate_left
  · (intro w'; go_simp; first | done | with_reducible rfl | rfl | (simp [Instr.field, go_sem]; rfl))
  rotate_left
  · (simp only [Act.put, List.setIfInBounds_toArray, List.set_cons_zero, List.set_cons_succ, i64_w, i32_w]; rfl)
  refine take_ (i := 1) (N := some 63) (v := ?_) (a' := ?_) #[true, true, false, false, false, false, false, false] rfl rfl (by kernel_rfl) (fun _ _ _ h => h) (Or.inl ⟨by rfl, ?_⟩) hHeld ?_ ?_
  rotate_left
  · (intro w' s0; have x0 := (blk_cell (blk_below KLd.out s0) 6).trans rfl; have x1 := (blk_cell (blk_below KLd.out s0) 7).trans rfl; go_simp; first | done | with_reducible rfl | rfl | (simp [Instr.field, go_sem]; rfl))
  rotate_left
  · (simp only [Act.put, List.setIfInBounds_toArray, List.set_cons_zero, List.set_cons_succ, i64_w, i32_w]; rfl)
  refine pure_ (i := 2) (N := some 64) (v := ?_) (a' := ?_) #[true, true, true, false, false, false, false, false] rfl rfl (by kernel_rfl) (fun _ _ _ h => h) (Or.inl ⟨by rfl, ?_⟩) ?_ ?_
  rotate_left
  · (intro w'; go_simp; first | done | with_reducible rfl | rfl | (simp [Instr.field, go_sem]; rfl))
  rotate_left
  · (simp only [Act.put, List.setIfInBounds_toArray, List.set_cons_zero, List.set_cons_succ, i64_w, i32_w]; rfl)
  refine pure_ (i := 3) (N := some 65) (v := ?_) (a' := ?_) #[true, true, true, true, false, false, false, false] rfl rfl (by kernel_rfl) (fun _ _ _ h => h) (Or.inl ⟨by rfl, ?_⟩) ?_ ?_
  rotate_left
  · (intro w'; go_simp; first | done | with_reducible rfl | rfl | (simp [Instr.field, go_sem]; rfl))
  rotate_left
  · (simp only [Act.put, List.setIfInBounds_toArray, List.set_cons_zero, List.set_cons_succ, i64_w, i32_w]; rfl)
  refine pure_ (i := 4) (N := some 66) (v := ?_) (a' := ?_) #[true, true, true, true, true, false, false, false] rfl rfl (by kernel_rfl) (fun _ _ _ h => h) (Or.inl ⟨by rfl, ?_⟩) ?_ ?_
  rotate_left
  · (intro w'; go_simp; first | done | with_reducible rfl | rfl | (simp [Instr.field, go_sem]; rfl))
  rotate_left
  · (simp only [Act.put, List.setIfInBounds_toArray, List.set_cons_zero, List.set_cons_succ, i64_w, i32_w]; rfl)
  refine take_ (i := 5) (N := some 67) (v := ?_) (a' := ?_) #[true, true, true, true, true, true, false, false] rfl rfl (by kernel_rfl) (fun _ _ _ h => h) (Or.inl ⟨by rfl, ?_⟩) hHeld ?_ ?_
  rotate_left
  · (intro w' s0; have x0 := (blk_cell (blk_below KTd.out s0) 5).trans (tc_vi _); have x1 := (blk_cell (blk_below KTd.out s0) 6).trans (tc_vm _); go_simp; first | done | with_reducible rfl | rfl | (simp [Instr.field, go_sem]; rfl))
  rotate_left
  · (simp only [Act.put, List.setIfInBounds_toArray, List.set_cons_zero, List.set_cons_succ, i64_w, i32_w]; rfl)
  refine pure_ (i := 6) (N := some 68) (v := .bool false) (a' := ?_) #[true, true, true, true, true, true, true, false] rfl rfl (by kernel_rfl) (fun _ _ _ h => h) (Or.inl ⟨by rfl, ?_⟩) ?_ ?_
  · (intro w'; go_simp; first | done | with_reducible rfl | rfl | (simp [Instr.field, go_sem]; rfl) | simp)
  rotate_left
  · (simp only [Act.put, List.setIfInBounds_toArray, List.set_cons_zero, List.set_cons_succ, i64_w, i32_w]; rfl)
  refine pure_ (i := 7) (N := some 61) (v := .bool false) (a' := ?_) #[true, true, true, true, true, true, true, true] rfl rfl (by kernel_rfl) (fun _ _ _ h => h) (Or.inl ⟨by rfl, ?_⟩) ?_ ?_
  · (intro w'; go_simp; first | done | with_reducible rfl | rfl | (simp [Instr.field, go_sem]; rfl) | simp)
  rotate_left
  · (simp only [Act.put, List.setIfInBounds_toArray, List.set_cons_zero, List.set_cons_succ, i64_w, i32_w]; rfl)
  refine done_ (by kernel_rfl) ?_
  replace B := Aside0.mk (below_step BD.out hHeld)
  replace KL := Aside0.mk (blk_below KLd.out hHeld)
  replace KT := Aside0.mk (blk_below KTd.out hHeld)
  clear hHeld KLd KTd BD
  have ng : Aside0 (g ≠ g1) := ⟨blk_ne KT.out KL.out (by decide)⟩
  have xk := (blk_cell KL.out 0).trans rfl
  go_wp2_with (first
    | (refine wpList_load_row rfl 40 (.tmp 4) rfl g1 rfl 40 #[.int .i64 4, .int .i64 f, .int .i64 s.me, .int .u64 sq, .int .i64 0, .slice none 0 0, .int .u64 s.vi, .int .u64 s.vm, .int .u64 b, .int .u64 od, .int .u64 ni, .int .u64 nm, .int .u64 cut, .slice none 0 0, .slice none 0 0, .float .f64 0] (0, 0) _ KL.out Tryd.underlying40 rfl si40 ?_)
    | (go_at_call 31; refine (freeze_at _ g s r KT.out).mono ?_; rintro e wf ⟨⟨v_, rfl⟩, ht, hk⟩; replace B := Aside0.mk (KeepBut.trans (KeepBut.of_below B.out g none) hk (.inl rfl)); replace KL := Aside0.mk (hk.blk KL.out ng.out.symm (by simp)); replace KT := Aside0.mk ht; clear ht hk)
    | (go_at_call 24; refine (HN.out _ KT.out B.out).mono ?_; rintro e wg ⟨v1, v2, rfl, hq⟩; have HQ := Aside0.mk hq; clear hq))
  go_ret2
  exact ⟨v1, v2, rfl, HQ.out⟩
set_option maxRecDepth 100000 in
set_option maxHeartbeats 4000000 in
theorem hear5 (w : World) (g : Nat) (s : TS) (f sq b od ni nm cut : Int) (r : Int) (Q : Value → Value → World → Prop) (hT : TB w g s) (hf : 0 ≤ f ∧ f < 64) (hm : 0 ≤ s.me ∧ s.me < 64) (hh : band_Has.f s.vm f = some true)
    (hN : ∀ w1, TB w1 g s → KeepBut w w1 g none → Calls Tryd.prog 25 #[.pointer (some ⟨g, 0, none⟩), .agg #[.int .i64 5, .int .i64 f, .int .i64 s.me, .int .u64 sq, .int .i64 0, .slice none 0 0, .int .u64 s.vi, .int .u64 s.vm, .int .u64 b, .int .u64 od, .int .u64 ni, .int .u64 nm, .int .u64 cut, .slice none 0 0, .slice none 0 0, .float .f64 0]] w1 fun e w' => ∃ v1 v2, e = .returned (.tuple #[v1, v2]) ∧ Q v1 v2 w') :
    Calls Tryd.prog 9 #[.pointer (some ⟨g, 0, none⟩), .agg #[.int .i64 5, .int .i64 f, .int .i64 s.me, .int .u64 sq, .int .i64 0, .slice none 0 0, .int .u64 s.vi, .int .u64 s.vm, .int .u64 b, .int .u64 od, .int .u64 ni, .int .u64 nm, .int .u64 cut, .slice none 0 0, .slice none 0 0, .float .f64 0], .int .u64 r] w fun e w' => ∃ v1 v2, e = .returned (.tuple #[v1, v2]) ∧ Q v1 v2 w' := by
  have KT := Aside0.mk hT
  clear hT
  have HN := Aside0.mk hN
  have HF := Aside0.mk hf
  have HM := Aside0.mk hm
  have HH := Aside0.mk hh
  have si40 := si40
  clear hf hm hh hN
  go_enter Tryd.func9, Tryd.ntmps9
  go_upto_region 3 with (first
    | ((with_reducible refine gate_dst (N := 4) rfl ?_); refine box_event ?hg (N := 4) ?hd (cs := #[.int .i64 5, .int .i64 f, .int .i64 s.me, .int .u64 sq, .int .i64 0, .slice none 0 0, .int .u64 s.vi, .int .u64 s.vm, .int .u64 b, .int .u64 od, .int .u64 ni, .int .u64 nm, .int .u64 cut, .slice none 0 0, .slice none 0 0, .float .f64 0]) (t := 40) ?hr ?_; (case hd => rfl); (case hg => rfl); (case hr => first | (go_simp; done) | (go_simp; rfl)); intro g1 hg_ w1 hb_ hB_; have G1 := Aside0.mk hg_; have KL := Aside0.mk hb_; have B := Aside0.mk hB_; replace KT := Aside0.mk (blk_below KT.out hB_); clear hg_ hb_ hB_)
    | ((with_reducible refine gate_dst (N := 11) rfl ?_); refine map_event rfl (N := 11) rfl ?_; intro gm hg_ w2 hb_ hB_; have GM := Aside0.mk (show w.heap.size ≤ gm by rw [hg_]; exact B.out.size); have n1 := Aside0.mk (show g1 ≠ gm by rw [hg_]; exact Nat.ne_of_lt (blk_lt KL.out)); have n2 := Aside0.mk (show g ≠ gm by rw [hg_]; exact Nat.ne_of_lt (blk_lt KT.out)); have KM := Aside0.mk hb_; replace KL := Aside0.mk (blk_below KL.out hB_); replace KT := Aside0.mk (blk_below KT.out hB_); replace B := Aside0.mk (below_step B.out hB_); clear hg_ hb_ hB_)
    | ((with_reducible refine gate_insert 4 rfl ?_); refine insert_event rfl 4 rfl gm rfl (.func (.func 24) #[.pointer (some ⟨g, 0, none⟩)] #[]) rfl #[] 0 KM.out (by rfl) ?_; intro w14 hb_ hB_ ho_; replace KM := Aside0.mk hb_; replace KL : Aside0 (w14.heap[g1]? = some (.cells #[.int .i64 5, .int .i64 f, .int .i64 s.me, .int .u64 sq, .int .i64 0, .slice none 0 0, .int .u64 s.vi, .int .u64 s.vm, .int .u64 b, .int .u64 od, .int .u64 ni, .int .u64 nm, .int .u64 cut, .slice none 0 0, .slice none 0 0, .float .f64 0] 40 (0, 0))) := ⟨(ho_ g1 n1.out).trans KL.out⟩; replace KT : Aside0 (w14.heap[g]? = some (.cells (tc s) 81 (0, 0))) := ⟨(ho_ g n2.out).trans KT.out⟩; replace B := Aside0.mk (B.out.trans (hB_.mono GM.out)); clear hb_ hB_ ho_; have xk4 := (blk_cell KL.out 0).trans rfl)
    | ((with_reducible refine gate_insert 5 rfl ?_); refine insert_event rfl 5 rfl gm rfl (.func (.func 25) #[.pointer (some ⟨g, 0, none⟩)] #[]) rfl (#[].push { key := .int .i64 4, val := .func (.func 24) #[.pointer (some ⟨g, 0, none⟩)] #[], born := 0 }) 1 KM.out (by rfl) ?_; intro w15 hb_ hB_ ho_; replace KM := Aside0.mk hb_; replace KL : Aside0 (w15.heap[g1]? = some (.cells #[.int .i64 5, .int .i64 f, .int .i64 s.me, .int .u64 sq, .int .i64 0, .slice none 0 0, .int .u64 s.vi, .int .u64 s.vm, .int .u64 b, .int .u64 od, .int .u64 ni, .int .u64 nm, .int .u64 cut, .slice none 0 0, .slice none 0 0, .float .f64 0] 40 (0, 0))) := ⟨(ho_ g1 n1.out).trans KL.out⟩; replace KT : Aside0 (w15.heap[g]? = some (.cells (tc s) 81 (0, 0))) := ⟨(ho_ g n2.out).trans KT.out⟩; replace B := Aside0.mk (B.out.trans (hB_.mono GM.out)); clear hb_ hB_ ho_; have xk5 := (blk_cell KL.out 0).trans rfl)
    | ((with_reducible refine gate_insert 6 rfl ?_); refine insert_event rfl 6 rfl gm rfl (.func (.func 26) #[.pointer (some ⟨g, 0, none⟩)] #[]) rfl ((#[].push { key := .int .i64 4, val := .func (.func 24) #[.pointer (some ⟨g, 0, none⟩)] #[], born := 0 }).push { key := .int .i64 5, val := .func (.func 25) #[.pointer (some ⟨g, 0, none⟩)] #[], born := 1 }) 2 KM.out (by rfl) ?_; intro w16 hb_ hB_ ho_; replace KM := Aside0.mk hb_; replace KL : Aside0 (w16.heap[g1]? = some (.cells #[.int .i64 5, .int .i64 f, .int .i64 s.me, .int .u64 sq, .int .i64 0, .slice none 0 0, .int .u64 s.vi, .int .u64 s.vm, .int .u64 b, .int .u64 od, .int .u64 ni, .int .u64 nm, .int .u64 cut, .slice none 0 0, .slice none 0 0, .float .f64 0] 40 (0, 0))) := ⟨(ho_ g1 n1.out).trans KL.out⟩; replace KT : Aside0 (w16.heap[g]? = some (.cells (tc s) 81 (0, 0))) := ⟨(ho_ g n2.out).trans KT.out⟩; replace B := Aside0.mk (B.out.trans (hB_.mono GM.out)); clear hb_ hB_ ho_; have xk6 := (blk_cell KL.out 0).trans rfl)
    | ((with_reducible refine gate_insert 7 rfl ?_); refine insert_event rfl 7 rfl gm rfl (.func (.func 27) #[.pointer (some ⟨g, 0, none⟩)] #[]) rfl (((#[].push { key := .int .i64 4, val := .func (.func 24) #[.pointer (some ⟨g, 0, none⟩)] #[], born := 0 }).push { key := .int .i64 5, val := .func (.func 25) #[.pointer (some ⟨g, 0, none⟩)] #[], born := 1 }).push { key := .int .i64 6, val := .func (.func 26) #[.pointer (some ⟨g, 0, none⟩)] #[], born := 2 }) 3 KM.out (by rfl) ?_; intro w17 hb_ hB_ ho_; replace KM := Aside0.mk hb_; replace KL : Aside0 (w17.heap[g1]? = some (.cells #[.int .i64 5, .int .i64 f, .int .i64 s.me, .int .u64 sq, .int .i64 0, .slice none 0 0, .int .u64 s.vi, .int .u64 s.vm, .int .u64 b, .int .u64 od, .int .u64 ni, .int .u64 nm, .int .u64 cut, .slice none 0 0, .slice none 0 0, .float .f64 0] 40 (0, 0))) := ⟨(ho_ g1 n1.out).trans KL.out⟩; replace KT : Aside0 (w17.heap[g]? = some (.cells (tc s) 81 (0, 0))) := ⟨(ho_ g n2.out).trans KT.out⟩; replace B := Aside0.mk (B.out.trans (hB_.mono GM.out)); clear hb_ hB_ ho_; have xk7 := (blk_cell KL.out 0).trans rfl)
    | ((with_reducible refine gate_insert 8 rfl ?_); refine insert_event rfl 8 rfl gm rfl (.func (.func 28) #[.pointer (some ⟨g, 0, none⟩)] #[]) rfl ((((#[].push { key := .int .i64 4, val := .func (.func 24) #[.pointer (some ⟨g, 0, none⟩)] #[], born := 0 }).push { key := .int .i64 5, val := .func (.func 25) #[.pointer (some ⟨g, 0, none⟩)] #[], born := 1 }).push { key := .int .i64 6, val := .func (.func 26) #[.pointer (some ⟨g, 0, none⟩)] #[], born := 2 }).push { key := .int .i64 7, val := .func (.func 27) #[.pointer (some ⟨g, 0, none⟩)] #[], born := 3 }) 4 KM.out (by rfl) ?_; intro w18 hb_ hB_ ho_; replace KM := Aside0.mk hb_; replace KL : Aside0 (w18.heap[g1]? = some (.cells #[.int .i64 5, .int .i64 f, .int .i64 s.me, .int .u64 sq, .int .i64 0, .slice none 0 0, .int .u64 s.vi, .int .u64 s.vm, .int .u64 b, .int .u64 od, .int .u64 ni, .int .u64 nm, .int .u64 cut, .slice none 0 0, .slice none 0 0, .float .f64 0] 40 (0, 0))) := ⟨(ho_ g1 n1.out).trans KL.out⟩; replace KT : Aside0 (w18.heap[g]? = some (.cells (tc s) 81 (0, 0))) := ⟨(ho_ g n2.out).trans KT.out⟩; replace B := Aside0.mk (B.out.trans (hB_.mono GM.out)); clear hb_ hB_ ho_; have xk8 := (blk_cell KL.out 0).trans rfl)
    | ((with_reducible refine gate_insert 9 rfl ?_); refine insert_event rfl 9 rfl gm rfl (.func (.func 29) #[.pointer (some ⟨g, 0, none⟩)] #[]) rfl (((((#[].push { key := .int .i64 4, val := .func (.func 24) #[.pointer (some ⟨g, 0, none⟩)] #[], born := 0 }).push { key := .int .i64 5, val := .func (.func 25) #[.pointer (some ⟨g, 0, none⟩)] #[], born := 1 }).push { key := .int .i64 6, val := .func (.func 26) #[.pointer (some ⟨g, 0, none⟩)] #[], born := 2 }).push { key := .int .i64 7, val := .func (.func 27) #[.pointer (some ⟨g, 0, none⟩)] #[], born := 3 }).push { key := .int .i64 8, val := .func (.func 28) #[.pointer (some ⟨g, 0, none⟩)] #[], born := 4 }) 5 KM.out (by rfl) ?_; intro w19 hb_ hB_ ho_; replace KM := Aside0.mk hb_; replace KL : Aside0 (w19.heap[g1]? = some (.cells #[.int .i64 5, .int .i64 f, .int .i64 s.me, .int .u64 sq, .int .i64 0, .slice none 0 0, .int .u64 s.vi, .int .u64 s.vm, .int .u64 b, .int .u64 od, .int .u64 ni, .int .u64 nm, .int .u64 cut, .slice none 0 0, .slice none 0 0, .float .f64 0] 40 (0, 0))) := ⟨(ho_ g1 n1.out).trans KL.out⟩; replace KT : Aside0 (w19.heap[g]? = some (.cells (tc s) 81 (0, 0))) := ⟨(ho_ g n2.out).trans KT.out⟩; replace B := Aside0.mk (B.out.trans (hB_.mono GM.out)); clear hb_ hB_ ho_; have xk9 := (blk_cell KL.out 0).trans rfl)
    | ((with_reducible refine gate_dst (N := 29) rfl ?_); refine lookup_event rfl rfl gm rfl 5 rfl ((((((#[].push { key := .int .i64 4, val := .func (.func 24) #[.pointer (some ⟨g, 0, none⟩)] #[], born := 0 }).push { key := .int .i64 5, val := .func (.func 25) #[.pointer (some ⟨g, 0, none⟩)] #[], born := 1 }).push { key := .int .i64 6, val := .func (.func 26) #[.pointer (some ⟨g, 0, none⟩)] #[], born := 2 }).push { key := .int .i64 7, val := .func (.func 27) #[.pointer (some ⟨g, 0, none⟩)] #[], born := 3 }).push { key := .int .i64 8, val := .func (.func 28) #[.pointer (some ⟨g, 0, none⟩)] #[], born := 4 }).push { key := .int .i64 9, val := .func (.func 29) #[.pointer (some ⟨g, 0, none⟩)] #[], born := 5 }) 6 KM.out 1 (.func (.func 25) #[.pointer (some ⟨g, 0, none⟩)] #[]) (by rfl) ?_))
  clear KM n1 n2
  refine start_ (n := 29) (S := fun w' => Below w19.drew.heap.size w19.drew w') (ds := []) #[false, false, false, false, false, false, false, false, false, false, false, false, false, false, false, false, false, false, false, false, false, false, false, false, false, false, false, false, false] (by kernel_rfl) rfl rfl (Below.refl _ _) (fun hHeld => ?_)
  have KLd := Aside0.mk (blk_drew KL.out)
  have KTd : Aside0 (w19.drew.heap[g]? = some (.cells (tc s) 81 (0, 0))) := ⟨blk_drew KT.out⟩
  have BD := Aside0.mk (below_drew1 B.out)
  generalize w19.drew = wd at KTd KLd BD hHeld ⊢
  refine take_ (i := 0) (N := some 33) (v := ?_) (a' := ?_) #[true, false, false, false, false, false, false, false, false, false, false, false, false, false, false, false, false, false, false, false, false, false, false, false, false, false, false, false, false] rfl rfl (by kernel_rfl) (fun _ _ _ h => h) (Or.inl ⟨by rfl, ?_⟩) hHeld ?_ ?_
  rotate_left
  · (intro w' s0; refine row_yields40 (.tmp 4) ?h1 _ ?h2 _ (blk_below KLd.out s0) si40; (case h1 => rfl); (case h2 => first | rfl | kernel_rfl))
  rotate_left
  · (simp only [Act.put, List.setIfInBounds_toArray, List.set_cons_zero, List.set_cons_succ, i64_w, i32_w]; rfl)
  refine one_ (i := 1) (N := some 34) #[true, true, false, false, false, false, false, false, false, false, false, false, false, false, false, false, false, false, false, false, false, false, false, false, false, false, false, false, false] rfl rfl (by kernel_rfl) (by decide) (fun K hK => ?_)
  refine goes_ Tryd.func30 (by kernel_rfl) rfl #[.agg #[.int .i64 5, .int .i64 f, .int .i64 s.me, .int .u64 sq, .int .i64 0, .slice none 0 0, .int .u64 s.vi, .int .u64 s.vm, .int .u64 b, .int .u64 od, .int .u64 ni, .int .u64 nm, .int .u64 cut, .slice none 0 0, .slice none 0 0, .float .f64 0]] (by rfl) rfl rfl (by (try simp only [List.map_toArray, List.map_cons, List.map_nil]); first | done | rfl) ?_
  refine (may_yes 5 f s.me sq s.vi s.vm b od ni nm cut _ (by decide) HF.out HM.out).mono ?_
  rintro e wa ⟨rfl, hb⟩
  have hHe := below_step hHeld hb
  clear hHeld
  clear hb
  refine ⟨_, rfl, ?_⟩
  refine hK _ _ hHe (fun hHeld => ?_)
  clear hK K hHe
  refine norm_ (a' := ?_) ?_ ?_
  rotate_left
  · (show Act.put _ (some 34) _ = _; simp only [Act.put, List.setIfInBounds_toArray, List.set_cons_zero, List.set_cons_succ, i64_w, i32_w]; rfl)
  refine pure_ (i := 2) (N := some 35) (v := .bool false) (a' := ?_) #[true, true, true, false, false, false, false, false, false, false, false, false, false, false, false, false, false, false, false, false, false, false, false, false, false, false, false, false, false] rfl rfl (by kernel_rfl) (fun _ _ _ h => h) (Or.inl ⟨by rfl, ?_⟩) ?_ ?_
  · (intro w'; go_simp; first | done | with_reducible rfl | rfl | (simp [Instr.field, go_sem]; rfl) | simp)
  rotate_left
  · (simp only [Act.put, List.setIfInBounds_toArray, List.set_cons_zero, List.set_cons_succ, i64_w, i32_w]; rfl)
  refine pure_ (i := 3) (N := some 36) (v := .bool false) (a' := ?_) #[true, true, true, true, false, false, false, false, false, false, false, false, false, false, false, false, false, false, false, false, false, false, false, false, false, false, false, false, false] rfl rfl (by kernel_rfl) (fun _ _ _ h => h) (Or.inl ⟨by rfl, ?_⟩) ?_ ?_
  · (intro w'; go_simp; first | done | with_reducible rfl | rfl | (simp [Instr.field, go_sem]; rfl) | simp)
  rotate_left
  · (simp only [Act.put, List.setIfInBounds_toArray, List.set_cons_zero, List.set_cons_succ, i64_w, i32_w]; rfl)
  refine pure_ (i := 4) (N := some 37) (v := ?_) (a' := ?_) #[true, true, true, true, true, false, false, false, false, false, false, false, false, false, false, false, false, false, false, false, false, false, false, false, false, false, false, false, false] rfl rfl (by kernel_rfl) (fun _ _ _ h => h) (Or.inl ⟨by rfl, ?_⟩) ?_ ?_
  rotate_left
  · (intro w'; go_simp; first | done | with_reducible rfl | rfl | (simp [Instr.field, go_sem]; rfl))
  rotate_left
  · (simp only [Act.put, List.setIfInBounds_toArray, List.set_cons_zero, List.set_cons_succ, i64_w, i32_w]; rfl)
  refine take_ (i := 5) (N := some 38) (v := ?_) (a' := ?_) #[true, true, true, true, true, true, false, false, false, false, false, false, false, false, false, false, false, false, false, false, false, false, false, false, false, false, false, false, false] rfl rfl (by kernel_rfl) (fun _ _ _ h => h) (Or.inl ⟨by rfl, ?_⟩) hHeld ?_ ?_
  rotate_left
  · (intro w' s0; have x0 := (blk_cell (blk_below KLd.out s0) 2).trans rfl; go_simp; first | done | with_reducible rfl | rfl | (simp [Instr.field, go_sem]; rfl))
  rotate_left
  · (simp only [Act.put, List.setIfInBounds_toArray, List.set_cons_zero, List.set_cons_succ, i64_w, i32_w]; rfl)
  refine pure_ (i := 6) (N := some 39) (v := ?_) (a' := ?_) #[true, true, true, true, true, true, true, false, false, false, false, false, false, false, false, false, false, false, false, false, false, false, false, false, false, false, false, false, false] rfl rfl (by kernel_rfl) (fun _ _ _ h => h) (Or.inl ⟨by rfl, ?_⟩) ?_ ?_
  rotate_left
  · (intro w'; go_simp; first | done | with_reducible rfl | rfl | (simp [Instr.field, go_sem]; rfl))
  rotate_left
  · (simp only [Act.put, List.setIfInBounds_toArray, List.set_cons_zero, List.set_cons_succ, i64_w, i32_w]; rfl)
  refine pure_ (i := 7) (N := some 40) (v := ?_) (a' := ?_) #[true, true, true, true, true, true, true, true, false, false, false, false, false, false, false, false, false, false, false, false, false, false, false, false, false, false, false, false, false] rfl rfl (by kernel_rfl) (fun _ _ _ h => h) (Or.inl ⟨by rfl, ?_⟩) ?_ ?_
  rotate_left
  · (intro w'; go_simp; first | done | with_reducible rfl | rfl | (simp [Instr.field, go_sem]; rfl))
  rotate_left
  · (simp only [Act.put, List.setIfInBounds_toArray, List.set_cons_zero, List.set_cons_succ, i64_w, i32_w]; rfl)
  refine pure_ (i := 8) (N := some 41) (v := ?_) (a' := ?_) #[true, true, true, true, true, true, true, true, true, false, false, false, false, false, false, false, false, false, false, false, false, false, false, false, false, false, false, false, false] rfl rfl (by kernel_rfl) (fun _ _ _ h => h) (Or.inl ⟨by rfl, ?_⟩) ?_ ?_
  rotate_left
  · (intro w'; go_simp; first | done | with_reducible rfl | rfl | (simp [Instr.field, go_sem]; rfl))
  rotate_left
  · (simp only [Act.put, List.setIfInBounds_toArray, List.set_cons_zero, List.set_cons_succ, i64_w, i32_w]; rfl)
  refine take_ (i := 9) (N := some 42) (v := ?_) (a' := ?_) #[true, true, true, true, true, true, true, true, true, true, false, false, false, false, false, false, false, false, false, false, false, false, false, false, false, false, false, false, false] rfl rfl (by kernel_rfl) (fun _ _ _ h => h) (Or.inl ⟨by rfl, ?_⟩) hHeld ?_ ?_
  rotate_left
  · (intro w' s0; have x0 := (blk_cell (blk_below KTd.out s0) 4).trans (tc_me _); go_simp; first | done | with_reducible rfl | rfl | (simp [Instr.field, go_sem]; rfl))
  rotate_left
  · (simp only [Act.put, List.setIfInBounds_toArray, List.set_cons_zero, List.set_cons_succ, i64_w, i32_w]; rfl)
  refine pure_ (i := 10) (N := some 43) (v := .bool false) (a' := ?_) #[true, true, true, true, true, true, true, true, true, true, true, false, false, false, false, false, false, false, false, false, false, false, false, false, false, false, false, false, false] rfl rfl (by kernel_rfl) (fun _ _ _ h => h) (Or.inl ⟨by rfl, ?_⟩) ?_ ?_
  · (intro w'; go_simp; first | done | with_reducible rfl | rfl | (simp [Instr.field, go_sem]; rfl) | simp)
  rotate_left
  · (simp only [Act.put, List.setIfInBounds_toArray, List.set_cons_zero, List.set_cons_succ, i64_w, i32_w]; rfl)
  refine pure_ (i := 11) (N := some 44) (v := .bool false) (a' := ?_) #[true, true, true, true, true, true, true, true, true, true, true, true, false, false, false, false, false, false, false, false, false, false, false, false, false, false, false, false, false] rfl rfl (by kernel_rfl) (fun _ _ _ h => h) (Or.inl ⟨by rfl, ?_⟩) ?_ ?_
  · (intro w'; go_simp; first | done | with_reducible rfl | rfl | (simp [Instr.field, go_sem]; rfl) | simp)
  rotate_left
  · (simp only [Act.put, List.setIfInBounds_toArray, List.set_cons_zero, List.set_cons_succ, i64_w, i32_w]; rfl)
  refine pure_ (i := 12) (N := some 45) (v := .bool false) (a' := ?_) #[true, true, true, true, true, true, true, true, true, true, true, true, true, false, false, false, false, false, false, false, false, false, false, false, false, false, false, false, false] rfl rfl (by kernel_rfl) (fun _ _ _ h => h) (Or.inl ⟨by rfl, ?_⟩) ?_ ?_
  · (intro w'; go_simp; first | done | with_reducible rfl | rfl | (simp [Instr.field, go_sem]; rfl) | simp)
  rotate_left
  · (simp only [Act.put, List.setIfInBounds_toArray, List.set_cons_zero, List.set_cons_succ, i64_w, i32_w]; rfl)
  refine pure_ (i := 13) (N := some 46) (v := ?_) (a' := ?_) #[true, true, true, true, true, true, true, true, true, true, true, true, true, true, false, false, false, false, false, false, false, false, false, false, false, false, false, false, false] rfl rfl (by kernel_rfl) (fun _ _ _ h => h) (Or.inl ⟨by rfl, ?_⟩) ?_ ?_
  rotate_left
  · (intro w'; go_simp; first | done | with_reducible rfl | rfl | (simp [Instr.field, go_sem]; rfl))
  rotate_left
  · (simp only [Act.put, List.setIfInBounds_toArray, List.set_cons_zero, List.set_cons_succ, i64_w, i32_w]; rfl)
  refine take_ (i := 14) (N := some 47) (v := ?_) (a' := ?_) #[true, true, true, true, true, true, true, true, true, true, true, true, true, true, true, false, false, false, false, false, false, false, false, false, false, false, false, false, false] rfl rfl (by kernel_rfl) (fun _ _ _ h => h) (Or.inl ⟨by rfl, ?_⟩) hHeld ?_ ?_
  rotate_left
  · (intro w' s0; have x0 := (blk_cell (blk_below KLd.out s0) 0).trans rfl; go_simp; first | done | with_reducible rfl | rfl | (simp [Instr.field, go_sem]; rfl))
  rotate_left
  · (simp only [Act.put, List.setIfInBounds_toArray, List.set_cons_zero, List.set_cons_succ, i64_w, i32_w]; rfl)
  refine pure_ (i := 15) (N := some 48) (v := .bool true) (a' := ?_) #[true, true, true, true, true, true, true, true, true, true, true, true, true, true, true, true, false, false, false, false, false, false, false, false, false, false, false, false, false] rfl rfl (by kernel_rfl) (fun _ _ _ h => h) (Or.inl ⟨by rfl, ?_⟩) ?_ ?_
  · (intro w'; go_simp; first | done | with_reducible rfl | rfl | (simp [Instr.field, go_sem]; rfl) | simp)
  rotate_left
  · (simp only [Act.put, List.setIfInBounds_toArray, List.set_cons_zero, List.set_cons_succ, i64_w, i32_w]; rfl)
  refine pure_ (i := 16) (N := some 49) (v := .bool true) (a' := ?_) #[true, true, true, true, true, true, true, true, true, true, true, true, true, true, true, true, true, false, false, false, false, false, false, false, false, false, false, false, false] rfl rfl (by kernel_rfl) (fun _ _ _ h => h) (Or.inl ⟨by rfl, ?_⟩) ?_ ?_
  · (intro w'; go_simp; first | done | with_reducible rfl | rfl | (simp [Instr.field, go_sem]; rfl) | simp)
  rotate_left
  · (simp only [Act.put, List.setIfInBounds_toArray, List.set_cons_zero, List.set_cons_succ, i64_w, i32_w]; rfl)
  refine pure_ (i := 17) (N := some 50) (v := ?_) (a' := ?_) #[true, true, true, true, true, true, true, true, true, true, true, true, true, true, true, true, true, true, false, false, false, false, false, false, false, false, false, false, false] rfl rfl (by kernel_rfl) (fun _ _ _ h => h) (Or.inl ⟨by rfl, ?_⟩) ?_ ?_
  rotate_left
  · (intro w'; go_simp; first | done | with_reducible rfl | rfl | (simp [Instr.field, go_sem]; rfl))
  rotate_left
  · (simp only [Act.put, List.setIfInBounds_toArray, List.set_cons_zero, List.set_cons_succ, i64_w, i32_w]; rfl)
  refine pure_ (i := 18) (N := some 51) (v := ?_) (a' := ?_) #[true, true, true, true, true, true, true, true, true, true, true, true, true, true, true, true, true, true, true, false, false, false, false, false, false, false, false, false, false] rfl rfl (by kernel_rfl) (fun _ _ _ h => h) (Or.inl ⟨by rfl, ?_⟩) ?_ ?_
  rotate_left
  · (intro w'; go_simp; first | done | with_reducible rfl | rfl | (simp [Instr.field, go_sem]; rfl))
  rotate_left
  · (simp only [Act.put, List.setIfInBounds_toArray, List.set_cons_zero, List.set_cons_succ, i64_w, i32_w]; rfl)
  refine pure_ (i := 19) (N := some 52) (v := ?_) (a' := ?_) #[true, true, true, true, true, true, true, true, true, true, true, true, true, true, true, true, true, true, true, true, false, false, false, false, false, false, false, false, false] rfl rfl (by kernel_rfl) (fun _ _ _ h => h) (Or.inl ⟨by rfl, ?_⟩) ?_ ?_
  rotate_left
  · (intro w'; go_simp; first | done | with_reducible rfl | rfl | (simp [Instr.field, go_sem]; rfl))
  rotate_left
  · (simp only [Act.put, List.setIfInBounds_toArray, List.set_cons_zero, List.set_cons_succ, i64_w, i32_w]; rfl)
  refine pure_ (i := 20) (N := some 53) (v := ?_) (a' := ?_) #[true, true, true, true, true, true, true, true, true, true, true, true, true, true, true, true, true, true, true, true, true, false, false, false, false, false, false, false, false] rfl rfl (by kernel_rfl) (fun _ _ _ h => h) (Or.inl ⟨by rfl, ?_⟩) ?_ ?_
  rotate_left
  · (intro w'; go_simp; first | done | with_reducible rfl | rfl | (simp [Instr.field, go_sem]; rfl))
  rotate_left
  · (simp only [Act.put, List.setIfInBounds_toArray, List.set_cons_zero, List.set_cons_succ, i64_w, i32_w]; rfl)
  refine take_ (i := 21) (N := some 54) (v := ?_) (a' := ?_) #[true, true, true, true, true, true, true, true, true, true, true, true, true, true, true, true, true, true, true, true, true, true, false, false, false, false, false, false, false] rfl rfl (by kernel_rfl) (fun _ _ _ h => h) (Or.inl ⟨by rfl, ?_⟩) hHeld ?_ ?_
  rotate_left
  · (intro w' s0; have x0 := (blk_cell (blk_below KTd.out s0) 6).trans (tc_vm _); go_simp; first | done | with_reducible rfl | rfl | (simp [Instr.field, go_sem]; rfl))
  rotate_left
  · (simp only [Act.put, List.setIfInBounds_toArray, List.set_cons_zero, List.set_cons_succ, i64_w, i32_w]; rfl)
  refine pure_ (i := 22) (N := some 55) (v := ?_) (a' := ?_) #[true, true, true, true, true, true, true, true, true, true, true, true, true, true, true, true, true, true, true, true, true, true, true, false, false, false, false, false, false] rfl rfl (by kernel_rfl) (fun _ _ _ h => h) (Or.inl ⟨by rfl, ?_⟩) ?_ ?_
  rotate_left
  · (intro w'; go_simp; first | done | with_reducible rfl | rfl | (simp [Instr.field, go_sem]; rfl))
  rotate_left
  · (simp only [Act.put, List.setIfInBounds_toArray, List.set_cons_zero, List.set_cons_succ, i64_w, i32_w]; rfl)
  refine take_ (i := 23) (N := some 56) (v := ?_) (a' := ?_) #[true, true, true, true, true, true, true, true, true, true, true, true, true, true, true, true, true, true, true, true, true, true, true, true, false, false, false, false, false] rfl rfl (by kernel_rfl) (fun _ _ _ h => h) (Or.inl ⟨by rfl, ?_⟩) hHeld ?_ ?_
  rotate_left
  · (intro w' s0; have x0 := (blk_cell (blk_below KLd.out s0) 1).trans rfl; go_simp; first | done | with_reducible rfl | rfl | (simp [Instr.field, go_sem]; rfl))
  rotate_left
  · (simp only [Act.put, List.setIfInBounds_toArray, List.set_cons_zero, List.set_cons_succ, i64_w, i32_w]; rfl)
  refine one_ (i := 24) (N := some 57) #[true, true, true, true, true, true, true, true, true, true, true, true, true, true, true, true, true, true, true, true, true, true, true, true, true, false, false, false, false] rfl rfl (by kernel_rfl) (by decide) (fun K hK => ?_)
  refine goes_ Tryd.func23 (by kernel_rfl) rfl #[.int .u64 s.vm, .int .i64 f] (by rfl) rfl rfl (by (try simp only [List.map_toArray, List.map_cons, List.map_nil]); first | done | rfl) ?_
  refine (band_Has.calls s.vm f true _ HH.out).mono ?_
  rintro e wb ⟨rfl, hd⟩
  have hHe := below_step hHeld (Drawn0.below hd)
  clear hHeld hd
  refine ⟨_, rfl, ?_⟩
  refine hK _ _ hHe (fun hHeld => ?_)
  clear hK K hHe
  refine norm_ (a' := ?_) ?_ ?_
  rotate_left
  · (show Act.put _ (some 57) _ = _; simp only [Act.put, List.setIfInBounds_toArray, List.set_cons_zero, List.set_cons_succ, i64_w, i32_w]; rfl)
  refine pure_ (i := 25) (N := some 58) (v := .bool false) (a' := ?_) #[true, true, true, true, true, true, true, true, true, true, true, true, true, true, true, true, true, true, true, true, true, true, true, true, true, true, false, false, false] rfl rfl (by kernel_rfl) (fun _ _ _ h => h) (Or.inl ⟨by rfl, ?_⟩) ?_ ?_
  · (intro w'; go_simp; first | done | with_reducible rfl | rfl | (simp [Instr.field, go_sem]; rfl) | simp)
  rotate_left
  · (simp only [Act.put, List.setIfInBounds_toArray, List.set_cons_zero, List.set_cons_succ, i64_w, i32_w]; rfl)
  refine pure_ (i := 26) (N := some 59) (v := .bool false) (a' := ?_) #[true, true, true, true, true, true, true, true, true, true, true, true, true, true, true, true, true, true, true, true, true, true, true, true, true, true, true, false, false] rfl rfl (by kernel_rfl) (fun _ _ _ h => h) (Or.inl ⟨by rfl, ?_⟩) ?_ ?_
  · (intro w'; go_simp; first | done | with_reducible rfl | rfl | (simp [Instr.field, go_sem]; rfl) | simp)
  rotate_left
  · (simp only [Act.put, List.setIfInBounds_toArray, List.set_cons_zero, List.set_cons_succ, i64_w, i32_w]; rfl)
  refine pure_ (i := 27) (N := some 60) (v := .bool false) (a' := ?_) #[true, true, true, true, true, true, true, true, true, true, true, true, true, true, true, true, true, true, true, true, true, true, true, true, true, true, true, true, false] rfl rfl (by kernel_rfl) (fun _ _ _ h => h) (Or.inl ⟨by rfl, ?_⟩) ?_ ?_
  · (intro w'; go_simp; first | done | with_reducible rfl | rfl | (simp [Instr.field, go_sem]; rfl) | simp)
  rotate_left
  · (simp only [Act.put, List.setIfInBounds_toArray, List.set_cons_zero, List.set_cons_succ, i64_w, i32_w]; rfl)
  refine pure_ (i := 28) (N := some 32) (v := .bool false) (a' := ?_) #[true, true, true, true, true, true, true, true, true, true, true, true, true, true, true, true, true, true, true, true, true, true, true, true, true, true, true, true, true] rfl rfl (by kernel_rfl) (fun _ _ _ h => h) (Or.inl ⟨by rfl, ?_⟩) ?_ ?_
  · (intro w'; go_simp; first | done | with_reducible rfl | rfl | (simp [Instr.field, go_sem]; rfl) | simp)
  rotate_left
  · (simp only [Act.put, List.setIfInBounds_toArray, List.set_cons_zero, List.set_cons_succ, i64_w, i32_w]; rfl)
  refine done_ (by kernel_rfl) ?_
  replace B := Aside0.mk (below_step BD.out hHeld)
  replace KL := Aside0.mk (blk_below KLd.out hHeld)
  replace KT := Aside0.mk (blk_below KTd.out hHeld)
  clear hHeld KLd KTd BD
  rename World => wq
  go_wp2
  refine start_ (n := 8) (S := fun w' => Below wq.drew.heap.size wq.drew w') (ds := []) #[false, false, false, false, false, false, false, false] (by kernel_rfl) rfl rfl (Below.refl _ _) (fun hHeld => ?_)
  have KLd := Aside0.mk (blk_drew KL.out)
  have KTd : Aside0 (wq.drew.heap[g]? = some (.cells (tc s) 81 (0, 0))) := ⟨blk_drew KT.out⟩
  have BD := Aside0.mk (below_drew1 B.out)
  generalize wq.drew = we at KTd KLd BD hHeld ⊢
  refine pure_ (i := 0) (N := some 62) (v := ?_) (a' := ?_) #[true, false, false, false, false, false, false, false] rfl rfl (by kernel_rfl) (fun _ _ _ h => h) (Or.inl ⟨by rfl, ?_⟩) ?_ ?_
  rotate_left
  · (intro w'; go_simp; first | done | with_reducible rfl | rfl | (simp [Instr.field, go_sem]; rfl))
  rotate_left
  · (simp only [Act.put, List.setIfInBounds_toArray, List.set_cons_zero, List.set_cons_succ, i64_w, i32_w]; rfl)
  refine take_ (i := 1) (N := some 63) (v := ?_) (a' := ?_) #[true, true, false, false, false, false, false, false] rfl rfl (by kernel_rfl) (fun _ _ _ h => h) (Or.inl ⟨by rfl, ?_⟩) hHeld ?_ ?_
  rotate_left
  · (intro w' s0; have x0 := (blk_cell (blk_below KLd.out s0) 6).trans rfl; have x1 := (blk_cell (blk_below KLd.out s0) 7).trans rfl; go_simp; first | done | with_reducible rfl | rfl | (simp [Instr.field, go_sem]; rfl))
  rotate_left
  · (simp only [Act.put, List.setIfInBounds_toArray, List.set_cons_zero, List.set_cons_succ, i64_w, i32_w]; rfl)
  refine pure_ (i := 2) (N := some 64) (v := ?_) (a' := ?_) #[true, true, true, false, false, false, false, false] rfl rfl (by kernel_rfl) (fun _ _ _ h => h) (Or.inl ⟨by rfl, ?_⟩) ?_ ?_
  rotate_left
  · (intro w'; go_simp; first | done | with_reducible rfl | rfl | (simp [Instr.field, go_sem]; rfl))
  rotate_left
  · (simp only [Act.put, List.setIfInBounds_toArray, List.set_cons_zero, List.set_cons_succ, i64_w, i32_w]; rfl)
  refine pure_ (i := 3) (N := some 65) (v := ?_) (a' := ?_) #[true, true, true, true, false, false, false, false] rfl rfl (by kernel_rfl) (fun _ _ _ h => h) (Or.inl ⟨by rfl, ?_⟩) ?_ ?_
  rotate_left
  · (intro w'; go_simp; first | done | with_reducible rfl | rfl | (simp [Instr.field, go_sem]; rfl))
  rotate_left
  · (simp only [Act.put, List.setIfInBounds_toArray, List.set_cons_zero, List.set_cons_succ, i64_w, i32_w]; rfl)
  refine pure_ (i := 4) (N := some 66) (v := ?_) (a' := ?_) #[true, true, true, true, true, false, false, false] rfl rfl (by kernel_rfl) (fun _ _ _ h => h) (Or.inl ⟨by rfl, ?_⟩) ?_ ?_
  rotate_left
  · (intro w'; go_simp; first | done | with_reducible rfl | rfl | (simp [Instr.field, go_sem]; rfl))
  rotate_left
  · (simp only [Act.put, List.setIfInBounds_toArray, List.set_cons_zero, List.set_cons_succ, i64_w, i32_w]; rfl)
  refine take_ (i := 5) (N := some 67) (v := ?_) (a' := ?_) #[true, true, true, true, true, true, false, false] rfl rfl (by kernel_rfl) (fun _ _ _ h => h) (Or.inl ⟨by rfl, ?_⟩) hHeld ?_ ?_
  rotate_left
  · (intro w' s0; have x0 := (blk_cell (blk_below KTd.out s0) 5).trans (tc_vi _); have x1 := (blk_cell (blk_below KTd.out s0) 6).trans (tc_vm _); go_simp; first | done | with_reducible rfl | rfl | (simp [Instr.field, go_sem]; rfl))
  rotate_left
  · (simp only [Act.put, List.setIfInBounds_toArray, List.set_cons_zero, List.set_cons_succ, i64_w, i32_w]; rfl)
  refine pure_ (i := 6) (N := some 68) (v := .bool false) (a' := ?_) #[true, true, true, true, true, true, true, false] rfl rfl (by kernel_rfl) (fun _ _ _ h => h) (Or.inl ⟨by rfl, ?_⟩) ?_ ?_
  · (intro w'; go_simp; first | done | with_reducible rfl | rfl | (simp [Instr.field, go_sem]; rfl) | simp)
  rotate_left
  · (simp only [Act.put, List.setIfInBounds_toArray, List.set_cons_zero, List.set_cons_succ, i64_w, i32_w]; rfl)
  refine pure_ (i := 7) (N := some 61) (v := .bool false) (a' := ?_) #[true, true, true, true, true, true, true, true] rfl rfl (by kernel_rfl) (fun _ _ _ h => h) (Or.inl ⟨by rfl, ?_⟩) ?_ ?_
  · (intro w'; go_simp; first | done | with_reducible rfl | rfl | (simp [Instr.field, go_sem]; rfl) | simp)
  rotate_left
  · (simp only [Act.put, List.setIfInBounds_toArray, List.set_cons_zero, List.set_cons_succ, i64_w, i32_w]; rfl)
  refine done_ (by kernel_rfl) ?_
  replace B := Aside0.mk (below_step BD.out hHeld)
  replace KL := Aside0.mk (blk_below KLd.out hHeld)
  replace KT := Aside0.mk (blk_below KTd.out hHeld)
  clear hHeld KLd KTd BD
  have ng : Aside0 (g ≠ g1) := ⟨blk_ne KT.out KL.out (by decide)⟩
  have xk := (blk_cell KL.out 0).trans rfl
  go_wp2_with (first
    | (refine wpList_load_row rfl 40 (.tmp 4) rfl g1 rfl 40 #[.int .i64 5, .int .i64 f, .int .i64 s.me, .int .u64 sq, .int .i64 0, .slice none 0 0, .int .u64 s.vi, .int .u64 s.vm, .int .u64 b, .int .u64 od, .int .u64 ni, .int .u64 nm, .int .u64 cut, .slice none 0 0, .slice none 0 0, .float .f64 0] (0, 0) _ KL.out Tryd.underlying40 rfl si40 ?_)
    | (go_at_call 25; refine (HN.out _ KT.out (KeepBut.of_below B.out g none)).mono ?_; rintro e wg ⟨v1, v2, rfl, hq⟩; have HQ := Aside0.mk hq; clear hq))
  go_ret2
  exact ⟨v1, v2, rfl, HQ.out⟩
set_option maxRecDepth 100000 in
set_option maxHeartbeats 4000000 in
theorem hear6 (w : World) (g : Nat) (s : TS) (f sq b od ni nm cut : Int) (r : Int) (Q : Value → Value → World → Prop) (hT : TB w g s) (hf : 0 ≤ f ∧ f < 64) (hm : 0 ≤ s.me ∧ s.me < 64) (hh : band_Has.f s.vm f = some true)
    (hN : ∀ w1, TB w1 g (s.freeze r) → KeepBut w w1 g none → Calls Tryd.prog 26 #[.pointer (some ⟨g, 0, none⟩), .agg #[.int .i64 6, .int .i64 f, .int .i64 s.me, .int .u64 sq, .int .i64 0, .slice none 0 0, .int .u64 s.vi, .int .u64 s.vm, .int .u64 b, .int .u64 od, .int .u64 ni, .int .u64 nm, .int .u64 cut, .slice none 0 0, .slice none 0 0, .float .f64 0]] w1 fun e w' => ∃ v1 v2, e = .returned (.tuple #[v1, v2]) ∧ Q v1 v2 w') :
    Calls Tryd.prog 9 #[.pointer (some ⟨g, 0, none⟩), .agg #[.int .i64 6, .int .i64 f, .int .i64 s.me, .int .u64 sq, .int .i64 0, .slice none 0 0, .int .u64 s.vi, .int .u64 s.vm, .int .u64 b, .int .u64 od, .int .u64 ni, .int .u64 nm, .int .u64 cut, .slice none 0 0, .slice none 0 0, .float .f64 0], .int .u64 r] w fun e w' => ∃ v1 v2, e = .returned (.tuple #[v1, v2]) ∧ Q v1 v2 w' := by
  have KT := Aside0.mk hT
  clear hT
  have HN := Aside0.mk hN
  have HF := Aside0.mk hf
  have HM := Aside0.mk hm
  have HH := Aside0.mk hh
  have si40 := si40
  clear hf hm hh hN
  go_enter Tryd.func9, Tryd.ntmps9
  go_upto_region 3 with (first
    | ((with_reducible refine gate_dst (N := 4) rfl ?_); refine box_event ?hg (N := 4) ?hd (cs := #[.int .i64 6, .int .i64 f, .int .i64 s.me, .int .u64 sq, .int .i64 0, .slice none 0 0, .int .u64 s.vi, .int .u64 s.vm, .int .u64 b, .int .u64 od, .int .u64 ni, .int .u64 nm, .int .u64 cut, .slice none 0 0, .slice none 0 0, .float .f64 0]) (t := 40) ?hr ?_; (case hd => rfl); (case hg => rfl); (case hr => first | (go_simp; done) | (go_simp; rfl)); intro g1 hg_ w1 hb_ hB_; have G1 := Aside0.mk hg_; have KL := Aside0.mk hb_; have B := Aside0.mk hB_; replace KT := Aside0.mk (blk_below KT.out hB_); clear hg_ hb_ hB_)
    | ((with_reducible refine gate_dst (N := 11) rfl ?_); refine map_event rfl (N := 11) rfl ?_; intro gm hg_ w2 hb_ hB_; have GM := Aside0.mk (show w.heap.size ≤ gm by rw [hg_]; exact B.out.size); have n1 := Aside0.mk (show g1 ≠ gm by rw [hg_]; exact Nat.ne_of_lt (blk_lt KL.out)); have n2 := Aside0.mk (show g ≠ gm by rw [hg_]; exact Nat.ne_of_lt (blk_lt KT.out)); have KM := Aside0.mk hb_; replace KL := Aside0.mk (blk_below KL.out hB_); replace KT := Aside0.mk (blk_below KT.out hB_); replace B := Aside0.mk (below_step B.out hB_); clear hg_ hb_ hB_)
    | ((with_reducible refine gate_insert 4 rfl ?_); refine insert_event rfl 4 rfl gm rfl (.func (.func 24) #[.pointer (some ⟨g, 0, none⟩)] #[]) rfl #[] 0 KM.out (by rfl) ?_; intro w14 hb_ hB_ ho_; replace KM := Aside0.mk hb_; replace KL : Aside0 (w14.heap[g1]? = some (.cells #[.int .i64 6, .int .i64 f, .int .i64 s.me, .int .u64 sq, .int .i64 0, .slice none 0 0, .int .u64 s.vi, .int .u64 s.vm, .int .u64 b, .int .u64 od, .int .u64 ni, .int .u64 nm, .int .u64 cut, .slice none 0 0, .slice none 0 0, .float .f64 0] 40 (0, 0))) := ⟨(ho_ g1 n1.out).trans KL.out⟩; replace KT : Aside0 (w14.heap[g]? = some (.cells (tc s) 81 (0, 0))) := ⟨(ho_ g n2.out).trans KT.out⟩; replace B := Aside0.mk (B.out.trans (hB_.mono GM.out)); clear hb_ hB_ ho_; have xk4 := (blk_cell KL.out 0).trans rfl)
    | ((with_reducible refine gate_insert 5 rfl ?_); refine insert_event rfl 5 rfl gm rfl (.func (.func 25) #[.pointer (some ⟨g, 0, none⟩)] #[]) rfl (#[].push { key := .int .i64 4, val := .func (.func 24) #[.pointer (some ⟨g, 0, none⟩)] #[], born := 0 }) 1 KM.out (by rfl) ?_; intro w15 hb_ hB_ ho_; replace KM := Aside0.mk hb_; replace KL : Aside0 (w15.heap[g1]? = some (.cells #[.int .i64 6, .int .i64 f, .int .i64 s.me, .int .u64 sq, .int .i64 0, .slice none 0 0, .int .u64 s.vi, .int .u64 s.vm, .int .u64 b, .int .u64 od, .int .u64 ni, .int .u64 nm, .int .u64 cut, .slice none 0 0, .slice none 0 0, .float .f64 0] 40 (0, 0))) := ⟨(ho_ g1 n1.out).trans KL.out⟩; replace KT : Aside0 (w15.heap[g]? = some (.cells (tc s) 81 (0, 0))) := ⟨(ho_ g n2.out).trans KT.out⟩; replace B := Aside0.mk (B.out.trans (hB_.mono GM.out)); clear hb_ hB_ ho_; have xk5 := (blk_cell KL.out 0).trans rfl)
    | ((with_reducible refine gate_insert 6 rfl ?_); refine insert_event rfl 6 rfl gm rfl (.func (.func 26) #[.pointer (some ⟨g, 0, none⟩)] #[]) rfl ((#[].push { key := .int .i64 4, val := .func (.func 24) #[.pointer (some ⟨g, 0, none⟩)] #[], born := 0 }).push { key := .int .i64 5, val := .func (.func 25) #[.pointer (some ⟨g, 0, none⟩)] #[], born := 1 }) 2 KM.out (by rfl) ?_; intro w16 hb_ hB_ ho_; replace KM := Aside0.mk hb_; replace KL : Aside0 (w16.heap[g1]? = some (.cells #[.int .i64 6, .int .i64 f, .int .i64 s.me, .int .u64 sq, .int .i64 0, .slice none 0 0, .int .u64 s.vi, .int .u64 s.vm, .int .u64 b, .int .u64 od, .int .u64 ni, .int .u64 nm, .int .u64 cut, .slice none 0 0, .slice none 0 0, .float .f64 0] 40 (0, 0))) := ⟨(ho_ g1 n1.out).trans KL.out⟩; replace KT : Aside0 (w16.heap[g]? = some (.cells (tc s) 81 (0, 0))) := ⟨(ho_ g n2.out).trans KT.out⟩; replace B := Aside0.mk (B.out.trans (hB_.mono GM.out)); clear hb_ hB_ ho_; have xk6 := (blk_cell KL.out 0).trans rfl)
    | ((with_reducible refine gate_insert 7 rfl ?_); refine insert_event rfl 7 rfl gm rfl (.func (.func 27) #[.pointer (some ⟨g, 0, none⟩)] #[]) rfl (((#[].push { key := .int .i64 4, val := .func (.func 24) #[.pointer (some ⟨g, 0, none⟩)] #[], born := 0 }).push { key := .int .i64 5, val := .func (.func 25) #[.pointer (some ⟨g, 0, none⟩)] #[], born := 1 }).push { key := .int .i64 6, val := .func (.func 26) #[.pointer (some ⟨g, 0, none⟩)] #[], born := 2 }) 3 KM.out (by rfl) ?_; intro w17 hb_ hB_ ho_; replace KM := Aside0.mk hb_; replace KL : Aside0 (w17.heap[g1]? = some (.cells #[.int .i64 6, .int .i64 f, .int .i64 s.me, .int .u64 sq, .int .i64 0, .slice none 0 0, .int .u64 s.vi, .int .u64 s.vm, .int .u64 b, .int .u64 od, .int .u64 ni, .int .u64 nm, .int .u64 cut, .slice none 0 0, .slice none 0 0, .float .f64 0] 40 (0, 0))) := ⟨(ho_ g1 n1.out).trans KL.out⟩; replace KT : Aside0 (w17.heap[g]? = some (.cells (tc s) 81 (0, 0))) := ⟨(ho_ g n2.out).trans KT.out⟩; replace B := Aside0.mk (B.out.trans (hB_.mono GM.out)); clear hb_ hB_ ho_; have xk7 := (blk_cell KL.out 0).trans rfl)
    | ((with_reducible refine gate_insert 8 rfl ?_); refine insert_event rfl 8 rfl gm rfl (.func (.func 28) #[.pointer (some ⟨g, 0, none⟩)] #[]) rfl ((((#[].push { key := .int .i64 4, val := .func (.func 24) #[.pointer (some ⟨g, 0, none⟩)] #[], born := 0 }).push { key := .int .i64 5, val := .func (.func 25) #[.pointer (some ⟨g, 0, none⟩)] #[], born := 1 }).push { key := .int .i64 6, val := .func (.func 26) #[.pointer (some ⟨g, 0, none⟩)] #[], born := 2 }).push { key := .int .i64 7, val := .func (.func 27) #[.pointer (some ⟨g, 0, none⟩)] #[], born := 3 }) 4 KM.out (by rfl) ?_; intro w18 hb_ hB_ ho_; replace KM := Aside0.mk hb_; replace KL : Aside0 (w18.heap[g1]? = some (.cells #[.int .i64 6, .int .i64 f, .int .i64 s.me, .int .u64 sq, .int .i64 0, .slice none 0 0, .int .u64 s.vi, .int .u64 s.vm, .int .u64 b, .int .u64 od, .int .u64 ni, .int .u64 nm, .int .u64 cut, .slice none 0 0, .slice none 0 0, .float .f64 0] 40 (0, 0))) := ⟨(ho_ g1 n1.out).trans KL.out⟩; replace KT : Aside0 (w18.heap[g]? = some (.cells (tc s) 81 (0, 0))) := ⟨(ho_ g n2.out).trans KT.out⟩; replace B := Aside0.mk (B.out.trans (hB_.mono GM.out)); clear hb_ hB_ ho_; have xk8 := (blk_cell KL.out 0).trans rfl)
    | ((with_reducible refine gate_insert 9 rfl ?_); refine insert_event rfl 9 rfl gm rfl (.func (.func 29) #[.pointer (some ⟨g, 0, none⟩)] #[]) rfl (((((#[].push { key := .int .i64 4, val := .func (.func 24) #[.pointer (some ⟨g, 0, none⟩)] #[], born := 0 }).push { key := .int .i64 5, val := .func (.func 25) #[.pointer (some ⟨g, 0, none⟩)] #[], born := 1 }).push { key := .int .i64 6, val := .func (.func 26) #[.pointer (some ⟨g, 0, none⟩)] #[], born := 2 }).push { key := .int .i64 7, val := .func (.func 27) #[.pointer (some ⟨g, 0, none⟩)] #[], born := 3 }).push { key := .int .i64 8, val := .func (.func 28) #[.pointer (some ⟨g, 0, none⟩)] #[], born := 4 }) 5 KM.out (by rfl) ?_; intro w19 hb_ hB_ ho_; replace KM := Aside0.mk hb_; replace KL : Aside0 (w19.heap[g1]? = some (.cells #[.int .i64 6, .int .i64 f, .int .i64 s.me, .int .u64 sq, .int .i64 0, .slice none 0 0, .int .u64 s.vi, .int .u64 s.vm, .int .u64 b, .int .u64 od, .int .u64 ni, .int .u64 nm, .int .u64 cut, .slice none 0 0, .slice none 0 0, .float .f64 0] 40 (0, 0))) := ⟨(ho_ g1 n1.out).trans KL.out⟩; replace KT : Aside0 (w19.heap[g]? = some (.cells (tc s) 81 (0, 0))) := ⟨(ho_ g n2.out).trans KT.out⟩; replace B := Aside0.mk (B.out.trans (hB_.mono GM.out)); clear hb_ hB_ ho_; have xk9 := (blk_cell KL.out 0).trans rfl)
    | ((with_reducible refine gate_dst (N := 29) rfl ?_); refine lookup_event rfl rfl gm rfl 6 rfl ((((((#[].push { key := .int .i64 4, val := .func (.func 24) #[.pointer (some ⟨g, 0, none⟩)] #[], born := 0 }).push { key := .int .i64 5, val := .func (.func 25) #[.pointer (some ⟨g, 0, none⟩)] #[], born := 1 }).push { key := .int .i64 6, val := .func (.func 26) #[.pointer (some ⟨g, 0, none⟩)] #[], born := 2 }).push { key := .int .i64 7, val := .func (.func 27) #[.pointer (some ⟨g, 0, none⟩)] #[], born := 3 }).push { key := .int .i64 8, val := .func (.func 28) #[.pointer (some ⟨g, 0, none⟩)] #[], born := 4 }).push { key := .int .i64 9, val := .func (.func 29) #[.pointer (some ⟨g, 0, none⟩)] #[], born := 5 }) 6 KM.out 2 (.func (.func 26) #[.pointer (some ⟨g, 0, none⟩)] #[]) (by rfl) ?_))
  clear KM n1 n2
  refine start_ (n := 29) (S := fun w' => Below w19.drew.heap.size w19.drew w') (ds := []) #[false, false, false, false, false, false, false, false, false, false, false, false, false, false, false, false, false, false, false, false, false, false, false, false, false, false, false, false, false] (by kernel_rfl) rfl rfl (Below.refl _ _) (fun hHeld => ?_)
  have KLd := Aside0.mk (blk_drew KL.out)
  have KTd : Aside0 (w19.drew.heap[g]? = some (.cells (tc s) 81 (0, 0))) := ⟨blk_drew KT.out⟩
  have BD := Aside0.mk (below_drew1 B.out)
  generalize w19.drew = wd at KTd KLd BD hHeld ⊢
  refine take_ (i := 0) (N := some 33) (v := ?_) (a' := ?_) #[true, false, false, false, false, false, false, false, false, false, false, false, false, false, false, false, false, false, false, false, false, false, false, false, false, false, false, false, false] rfl rfl (by kernel_rfl) (fun _ _ _ h => h) (Or.inl ⟨by rfl, ?_⟩) hHeld ?_ ?_
  rotate_left
  · (intro w' s0; refine row_yields40 (.tmp 4) ?h1 _ ?h2 _ (blk_below KLd.out s0) si40; (case h1 => rfl); (case h2 => first | rfl | kernel_rfl))
  rotate_left
  · (simp only [Act.put, List.setIfInBounds_toArray, List.set_cons_zero, List.set_cons_succ, i64_w, i32_w]; rfl)
  refine one_ (i := 1) (N := some 34) #[true, true, false, false, false, false, false, false, false, false, false, false, false, false, false, false, false, false, false, false, false, false, false, false, false, false, false, false, false] rfl rfl (by kernel_rfl) (by decide) (fun K hK => ?_)
  refine goes_ Tryd.func30 (by kernel_rfl) rfl #[.agg #[.int .i64 6, .int .i64 f, .int .i64 s.me, .int .u64 sq, .int .i64 0, .slice none 0 0, .int .u64 s.vi, .int .u64 s.vm, .int .u64 b, .int .u64 od, .int .u64 ni, .int .u64 nm, .int .u64 cut, .slice none 0 0, .slice none 0 0, .float .f64 0]] (by rfl) rfl rfl (by (try simp only [List.map_toArray, List.map_cons, List.map_nil]); first | done | rfl) ?_
  refine (may_yes 6 f s.me sq s.vi s.vm b od ni nm cut _ (by decide) HF.out HM.out).mono ?_
  rintro e wa ⟨rfl, hb⟩
  have hHe := below_step hHeld hb
  clear hHeld
  clear hb
  refine ⟨_, rfl, ?_⟩
  refine hK _ _ hHe (fun hHeld => ?_)
  clear hK K hHe
  refine norm_ (a' := ?_) ?_ ?_
  rotate_left
  · (show Act.put _ (some 34) _ = _; simp only [Act.put, List.setIfInBounds_toArray, List.set_cons_zero, List.set_cons_succ, i64_w, i32_w]; rfl)
  refine pure_ (i := 2) (N := some 35) (v := .bool false) (a' := ?_) #[true, true, true, false, false, false, false, false, false, false, false, false, false, false, false, false, false, false, false, false, false, false, false, false, false, false, false, false, false] rfl rfl (by kernel_rfl) (fun _ _ _ h => h) (Or.inl ⟨by rfl, ?_⟩) ?_ ?_
  · (intro w'; go_simp; first | done | with_reducible rfl | rfl | (simp [Instr.field, go_sem]; rfl) | simp)
  rotate_left
  · (simp only [Act.put, List.setIfInBounds_toArray, List.set_cons_zero, List.set_cons_succ, i64_w, i32_w]; rfl)
  refine pure_ (i := 3) (N := some 36) (v := .bool false) (a' := ?_) #[true, true, true, true, false, false, false, false, false, false, false, false, false, false, false, false, false, false, false, false, false, false, false, false, false, false, false, false, false] rfl rfl (by kernel_rfl) (fun _ _ _ h => h) (Or.inl ⟨by rfl, ?_⟩) ?_ ?_
  · (intro w'; go_simp; first | done | with_reducible rfl | rfl | (simp [Instr.field, go_sem]; rfl) | simp)
  rotate_left
  · (simp only [Act.put, List.setIfInBounds_toArray, List.set_cons_zero, List.set_cons_succ, i64_w, i32_w]; rfl)
  refine pure_ (i := 4) (N := some 37) (v := ?_) (a' := ?_) #[true, true, true, true, true, false, false, false, false, false, false, false, false, false, false, false, false, false, false, false, false, false, false, false, false, false, false, false, false] rfl rfl (by kernel_rfl) (fun _ _ _ h => h) (Or.inl ⟨by rfl, ?_⟩) ?_ ?_
  rotate_left
  · (intro w'; go_simp; first | done | with_reducible rfl | rfl | (simp [Instr.field, go_sem]; rfl))
  rotate_left
  · (simp only [Act.put, List.setIfInBounds_toArray, List.set_cons_zero, List.set_cons_succ, i64_w, i32_w]; rfl)
  refine take_ (i := 5) (N := some 38) (v := ?_) (a' := ?_) #[true, true, true, true, true, true, false, false, false, false, false, false, false, false, false, false, false, false, false, false, false, false, false, false, false, false, false, false, false] rfl rfl (by kernel_rfl) (fun _ _ _ h => h) (Or.inl ⟨by rfl, ?_⟩) hHeld ?_ ?_
  rotate_left
  · (intro w' s0; have x0 := (blk_cell (blk_below KLd.out s0) 2).trans rfl; go_simp; first | done | with_reducible rfl | rfl | (simp [Instr.field, go_sem]; rfl))
  rotate_left
  · (simp only [Act.put, List.setIfInBounds_toArray, List.set_cons_zero, List.set_cons_succ, i64_w, i32_w]; rfl)
  refine pure_ (i := 6) (N := some 39) (v := ?_) (a' := ?_) #[true, true, true, true, true, true, true, false, false, false, false, false, false, false, false, false, false, false, false, false, false, false, false, false, false, false, false, false, false] rfl rfl (by kernel_rfl) (fun _ _ _ h => h) (Or.inl ⟨by rfl, ?_⟩) ?_ ?_
  rotate_left
  · (intro w'; go_simp; first | done | with_reducible rfl | rfl | (simp [Instr.field, go_sem]; rfl))
  rotate_left
  · (simp only [Act.put, List.setIfInBounds_toArray, List.set_cons_zero, List.set_cons_succ, i64_w, i32_w]; rfl)
  refine pure_ (i := 7) (N := some 40) (v := ?_) (a' := ?_) #[true, true, true, true, true, true, true, true, false, false, false, false, false, false, false, false, false, false, false, false, false, false, false, false, false, false, false, false, false] rfl rfl (by kernel_rfl) (fun _ _ _ h => h) (Or.inl ⟨by rfl, ?_⟩) ?_ ?_
  rotate_left
  · (intro w'; go_simp; first | done | with_reducible rfl | rfl | (simp [Instr.field, go_sem]; rfl))
  rotate_left
  · (simp only [Act.put, List.setIfInBounds_toArray, List.set_cons_zero, List.set_cons_succ, i64_w, i32_w]; rfl)
  refine pure_ (i := 8) (N := some 41) (v := ?_) (a' := ?_) #[true, true, true, true, true, true, true, true, true, false, false, false, false, false, false, false, false, false, false, false, false, false, false, false, false, false, false, false, false] rfl rfl (by kernel_rfl) (fun _ _ _ h => h) (Or.inl ⟨by rfl, ?_⟩) ?_ ?_
  rotate_left
  · (intro w'; go_simp; first | done | with_reducible rfl | rfl | (simp [Instr.field, go_sem]; rfl))
  rotate_left
  · (simp only [Act.put, List.setIfInBounds_toArray, List.set_cons_zero, List.set_cons_succ, i64_w, i32_w]; rfl)
  refine take_ (i := 9) (N := some 42) (v := ?_) (a' := ?_) #[true, true, true, true, true, true, true, true, true, true, false, false, false, false, false, false, false, false, false, false, false, false, false, false, false, false, false, false, false] rfl rfl (by kernel_rfl) (fun _ _ _ h => h) (Or.inl ⟨by rfl, ?_⟩) hHeld ?_ ?_
  rotate_left
  · (intro w' s0; have x0 := (blk_cell (blk_below KTd.out s0) 4).trans (tc_me _); go_simp; first | done | with_reducible rfl | rfl | (simp [Instr.field, go_sem]; rfl))
  rotate_left
  · (simp only [Act.put, List.setIfInBounds_toArray, List.set_cons_zero, List.set_cons_succ, i64_w, i32_w]; rfl)
  refine pure_ (i := 10) (N := some 43) (v := .bool false) (a' := ?_) #[true, true, true, true, true, true, true, true, true, true, true, false, false, false, false, false, false, false, false, false, false, false, false, false, false, false, false, false, false] rfl rfl (by kernel_rfl) (fun _ _ _ h => h) (Or.inl ⟨by rfl, ?_⟩) ?_ ?_
  · (intro w'; go_simp; first | done | with_reducible rfl | rfl | (simp [Instr.field, go_sem]; rfl) | simp)
  rotate_left
  · (simp only [Act.put, List.setIfInBounds_toArray, List.set_cons_zero, List.set_cons_succ, i64_w, i32_w]; rfl)
  refine pure_ (i := 11) (N := some 44) (v := .bool false) (a' := ?_) #[true, true, true, true, true, true, true, true, true, true, true, true, false, false, false, false, false, false, false, false, false, false, false, false, false, false, false, false, false] rfl rfl (by kernel_rfl) (fun _ _ _ h => h) (Or.inl ⟨by rfl, ?_⟩) ?_ ?_
  · (intro w'; go_simp; first | done | with_reducible rfl | rfl | (simp [Instr.field, go_sem]; rfl) | simp)
  rotate_left
  · (simp only [Act.put, List.setIfInBounds_toArray, List.set_cons_zero, List.set_cons_succ, i64_w, i32_w]; rfl)
  refine pure_ (i := 12) (N := some 45) (v := .bool false) (a' := ?_) #[true, true, true, true, true, true, true, true, true, true, true, true, true, false, false, false, false, false, false, false, false, false, false, false, false, false, false, false, false] rfl rfl (by kernel_rfl) (fun _ _ _ h => h) (Or.inl ⟨by rfl, ?_⟩) ?_ ?_
  · (intro w'; go_simp; first | done | with_reducible rfl | rfl | (simp [Instr.field, go_sem]; rfl) | simp)
  rotate_left
  · (simp only [Act.put, List.setIfInBounds_toArray, List.set_cons_zero, List.set_cons_succ, i64_w, i32_w]; rfl)
  refine pure_ (i := 13) (N := some 46) (v := ?_) (a' := ?_) #[true, true, true, true, true, true, true, true, true, true, true, true, true, true, false, false, false, false, false, false, false, false, false, false, false, false, false, false, false] rfl rfl (by kernel_rfl) (fun _ _ _ h => h) (Or.inl ⟨by rfl, ?_⟩) ?_ ?_
  rotate_left
  · (intro w'; go_simp; first | done | with_reducible rfl | rfl | (simp [Instr.field, go_sem]; rfl))
  rotate_left
  · (simp only [Act.put, List.setIfInBounds_toArray, List.set_cons_zero, List.set_cons_succ, i64_w, i32_w]; rfl)
  refine take_ (i := 14) (N := some 47) (v := ?_) (a' := ?_) #[true, true, true, true, true, true, true, true, true, true, true, true, true, true, true, false, false, false, false, false, false, false, false, false, false, false, false, false, false] rfl rfl (by kernel_rfl) (fun _ _ _ h => h) (Or.inl ⟨by rfl, ?_⟩) hHeld ?_ ?_
  rotate_left
  · (intro w' s0; have x0 := (blk_cell (blk_below KLd.out s0) 0).trans rfl; go_simp; first | done | with_reducible rfl | rfl | (simp [Instr.field, go_sem]; rfl))
  rotate_left
  · (simp only [Act.put, List.setIfInBounds_toArray, List.set_cons_zero, List.set_cons_succ, i64_w, i32_w]; rfl)
  refine pure_ (i := 15) (N := some 48) (v := .bool true) (a' := ?_) #[true, true, true, true, true, true, true, true, true, true, true, true, true, true, true, true, false, false, false, false, false, false, false, false, false, false, false, false, false] rfl rfl (by kernel_rfl) (fun _ _ _ h => h) (Or.inl ⟨by rfl, ?_⟩) ?_ ?_
  · (intro w'; go_simp; first | done | with_reducible rfl | rfl | (simp [Instr.field, go_sem]; rfl) | simp)
  rotate_left
  · (simp only [Act.put, List.setIfInBounds_toArray, List.set_cons_zero, List.set_cons_succ, i64_w, i32_w]; rfl)
  refine pure_ (i := 16) (N := some 49) (v := .bool true) (a' := ?_) #[true, true, true, true, true, true, true, true, true, true, true, true, true, true, true, true, true, false, false, false, false, false, false, false, false, false, false, false, false] rfl rfl (by kernel_rfl) (fun _ _ _ h => h) (Or.inl ⟨by rfl, ?_⟩) ?_ ?_
  · (intro w'; go_simp; first | done | with_reducible rfl | rfl | (simp [Instr.field, go_sem]; rfl) | simp)
  rotate_left
  · (simp only [Act.put, List.setIfInBounds_toArray, List.set_cons_zero, List.set_cons_succ, i64_w, i32_w]; rfl)
  refine pure_ (i := 17) (N := some 50) (v := ?_) (a' := ?_) #[true, true, true, true, true, true, true, true, true, true, true, true, true, true, true, true, true, true, false, false, false, false, false, false, false, false, false, false, false] rfl rfl (by kernel_rfl) (fun _ _ _ h => h) (Or.inl ⟨by rfl, ?_⟩) ?_ ?_
  rotate_left
  · (intro w'; go_simp; first | done | with_reducible rfl | rfl | (simp [Instr.field, go_sem]; rfl))
  rotate_left
  · (simp only [Act.put, List.setIfInBounds_toArray, List.set_cons_zero, List.set_cons_succ, i64_w, i32_w]; rfl)
  refine pure_ (i := 18) (N := some 51) (v := ?_) (a' := ?_) #[true, true, true, true, true, true, true, true, true, true, true, true, true, true, true, true, true, true, true, false, false, false, false, false, false, false, false, false, false] rfl rfl (by kernel_rfl) (fun _ _ _ h => h) (Or.inl ⟨by rfl, ?_⟩) ?_ ?_
  rotate_left
  · (intro w'; go_simp; first | done | with_reducible rfl | rfl | (simp [Instr.field, go_sem]; rfl))
  rotate_left
  · (simp only [Act.put, List.setIfInBounds_toArray, List.set_cons_zero, List.set_cons_succ, i64_w, i32_w]; rfl)
  refine pure_ (i := 19) (N := some 52) (v := ?_) (a' := ?_) #[true, true, true, true, true, true, true, true, true, true, true, true, true, true, true, true, true, true, true, true, false, false, false, false, false, false, false, false, false] rfl rfl (by kernel_rfl) (fun _ _ _ h => h) (Or.inl ⟨by rfl, ?_⟩) ?_ ?_
  rotate_left
  · (intro w'; go_simp; first | done | with_reducible rfl | rfl | (simp [Instr.field, go_sem]; rfl))
  rotate_left
  · (simp only [Act.put, List.setIfInBounds_toArray, List.set_cons_zero, List.set_cons_succ, i64_w, i32_w]; rfl)
  refine pure_ (i := 20) (N := some 53) (v := ?_) (a' := ?_) #[true, true, true, true, true, true, true, true, true, true, true, true, true, true, true, true, true, true, true, true, true, false, false, false, false, false, false, false, false] rfl rfl (by kernel_rfl) (fun _ _ _ h => h) (Or.inl ⟨by rfl, ?_⟩) ?_ ?_
  rotate_left
  · (intro w'; go_simp; first | done | with_reducible rfl | rfl | (simp [Instr.field, go_sem]; rfl))
  rotate_left
  · (simp only [Act.put, List.setIfInBounds_toArray, List.set_cons_zero, List.set_cons_succ, i64_w, i32_w]; rfl)
  refine take_ (i := 21) (N := some 54) (v := ?_) (a' := ?_) #[true, true, true, true, true, true, true, true, true, true, true, true, true, true, true, true, true, true, true, true, true, true, false, false, false, false, false, false, false] rfl rfl (by kernel_rfl) (fun _ _ _ h => h) (Or.inl ⟨by rfl, ?_⟩) hHeld ?_ ?_
  rotate_left
  · (intro w' s0; have x0 := (blk_cell (blk_below KTd.out s0) 6).trans (tc_vm _); go_simp; first | done | with_reducible rfl | rfl | (simp [Instr.field, go_sem]; rfl))
  rotate_left
  · (simp only [Act.put, List.setIfInBounds_toArray, List.set_cons_zero, List.set_cons_succ, i64_w, i32_w]; rfl)
  refine pure_ (i := 22) (N := some 55) (v := ?_) (a' := ?_) #[true, true, true, true, true, true, true, true, true, true, true, true, true, true, true, true, true, true, true, true, true, true, true, false, false, false, false, false, false] rfl rfl (by kernel_rfl) (fun _ _ _ h => h) (Or.inl ⟨by rfl, ?_⟩) ?_ ?_
  rotate_left
  · (intro w'; go_simp; first | done | with_reducible rfl | rfl | (simp [Instr.field, go_sem]; rfl))
  rotate_left
  · (simp only [Act.put, List.setIfInBounds_toArray, List.set_cons_zero, List.set_cons_succ, i64_w, i32_w]; rfl)
  refine take_ (i := 23) (N := some 56) (v := ?_) (a' := ?_) #[true, true, true, true, true, true, true, true, true, true, true, true, true, true, true, true, true, true, true, true, true, true, true, true, false, false, false, false, false] rfl rfl (by kernel_rfl) (fun _ _ _ h => h) (Or.inl ⟨by rfl, ?_⟩) hHeld ?_ ?_
  rotate_left
  · (intro w' s0; have x0 := (blk_cell (blk_below KLd.out s0) 1).trans rfl; go_simp; first | done | with_reducible rfl | rfl | (simp [Instr.field, go_sem]; rfl))
  rotate_left
  · (simp only [Act.put, List.setIfInBounds_toArray, List.set_cons_zero, List.set_cons_succ, i64_w, i32_w]; rfl)
  refine one_ (i := 24) (N := some 57) #[true, true, true, true, true, true, true, true, true, true, true, true, true, true, true, true, true, true, true, true, true, true, true, true, true, false, false, false, false] rfl rfl (by kernel_rfl) (by decide) (fun K hK => ?_)
  refine goes_ Tryd.func23 (by kernel_rfl) rfl #[.int .u64 s.vm, .int .i64 f] (by rfl) rfl rfl (by (try simp only [List.map_toArray, List.map_cons, List.map_nil]); first | done | rfl) ?_
  refine (band_Has.calls s.vm f true _ HH.out).mono ?_
  rintro e wb ⟨rfl, hd⟩
  have hHe := below_step hHeld (Drawn0.below hd)
  clear hHeld hd
  refine ⟨_, rfl, ?_⟩
  refine hK _ _ hHe (fun hHeld => ?_)
  clear hK K hHe
  refine norm_ (a' := ?_) ?_ ?_
  rotate_left
  · (show Act.put _ (some 57) _ = _; simp only [Act.put, List.setIfInBounds_toArray, List.set_cons_zero, List.set_cons_succ, i64_w, i32_w]; rfl)
  refine pure_ (i := 25) (N := some 58) (v := .bool false) (a' := ?_) #[true, true, true, true, true, true, true, true, true, true, true, true, true, true, true, true, true, true, true, true, true, true, true, true, true, true, false, false, false] rfl rfl (by kernel_rfl) (fun _ _ _ h => h) (Or.inl ⟨by rfl, ?_⟩) ?_ ?_
  · (intro w'; go_simp; first | done | with_reducible rfl | rfl | (simp [Instr.field, go_sem]; rfl) | simp)
  rotate_left
  · (simp only [Act.put, List.setIfInBounds_toArray, List.set_cons_zero, List.set_cons_succ, i64_w, i32_w]; rfl)
  refine pure_ (i := 26) (N := some 59) (v := .bool false) (a' := ?_) #[true, true, true, true, true, true, true, true, true, true, true, true, true, true, true, true, true, true, true, true, true, true, true, true, true, true, true, false, false] rfl rfl (by kernel_rfl) (fun _ _ _ h => h) (Or.inl ⟨by rfl, ?_⟩) ?_ ?_
  · (intro w'; go_simp; first | done | with_reducible rfl | rfl | (simp [Instr.field, go_sem]; rfl) | simp)
  rotate_left
  · (simp only [Act.put, List.setIfInBounds_toArray, List.set_cons_zero, List.set_cons_succ, i64_w, i32_w]; rfl)
  refine pure_ (i := 27) (N := some 60) (v := .bool false) (a' := ?_) #[true, true, true, true, true, true, true, true, true, true, true, true, true, true, true, true, true, true, true, true, true, true, true, true, true, true, true, true, false] rfl rfl (by kernel_rfl) (fun _ _ _ h => h) (Or.inl ⟨by rfl, ?_⟩) ?_ ?_
  · (intro w'; go_simp; first | done | with_reducible rfl | rfl | (simp [Instr.field, go_sem]; rfl) | simp)
  rotate_left
  · (simp only [Act.put, List.setIfInBounds_toArray, List.set_cons_zero, List.set_cons_succ, i64_w, i32_w]; rfl)
  refine pure_ (i := 28) (N := some 32) (v := .bool false) (a' := ?_) #[true, true, true, true, true, true, true, true, true, true, true, true, true, true, true, true, true, true, true, true, true, true, true, true, true, true, true, true, true] rfl rfl (by kernel_rfl) (fun _ _ _ h => h) (Or.inl ⟨by rfl, ?_⟩) ?_ ?_
  · (intro w'; go_simp; first | done | with_reducible rfl | rfl | (simp [Instr.field, go_sem]; rfl) | simp)
  rotate_left
  · (simp only [Act.put, List.setIfInBounds_toArray, List.set_cons_zero, List.set_cons_succ, i64_w, i32_w]; rfl)
  refine done_ (by kernel_rfl) ?_
  replace B := Aside0.mk (below_step BD.out hHeld)
  replace KL := Aside0.mk (blk_below KLd.out hHeld)
  replace KT := Aside0.mk (blk_below KTd.out hHeld)
  clear hHeld KLd KTd BD
  rename World => wq
  go_wp2
  refine start_ (n := 8) (S := fun w' => Below wq.drew.heap.size wq.drew w') (ds := []) #[false, false, false, false, false, false, false, false] (by kernel_rfl) rfl rfl (Below.refl _ _) (fun hHeld => ?_)
  have KLd := Aside0.mk (blk_drew KL.out)
  have KTd : Aside0 (wq.drew.heap[g]? = some (.cells (tc s) 81 (0, 0))) := ⟨blk_drew KT.out⟩
  have BD := Aside0.mk (below_drew1 B.out)
  generalize wq.drew = we at KTd KLd BD hHeld ⊢
  refine pure_ (i := 0) (N := some 62) (v := ?_) (a' := ?_) #[true, false, false, false, false, false, false, false] rfl rfl (by kernel_rfl) (fun _ _ _ h => h) (Or.inl ⟨by rfl, ?_⟩) ?_ ?_
  rotate_left
  · (intro w'; go_simp; first | done | with_reducible rfl | rfl | (simp [Instr.field, go_sem]; rfl))
  rotate_left
  · (simp only [Act.put, List.setIfInBounds_toArray, List.set_cons_zero, List.set_cons_succ, i64_w, i32_w]; rfl)
  refine take_ (i := 1) (N := some 63) (v := ?_) (a' := ?_) #[true, true, false, false, false, false, false, false] rfl rfl (by kernel_rfl) (fun _ _ _ h => h) (Or.inl ⟨by rfl, ?_⟩) hHeld ?_ ?_
  rotate_left
  · (intro w' s0; have x0 := (blk_cell (blk_below KLd.out s0) 6).trans rfl; have x1 := (blk_cell (blk_below KLd.out s0) 7).trans rfl; go_simp; first | done | with_reducible rfl | rfl | (simp [Instr.field, go_sem]; rfl))
  rotate_left
  · (simp only [Act.put, List.setIfInBounds_toArray, List.set_cons_zero, List.set_cons_succ, i64_w, i32_w]; rfl)
  refine pure_ (i := 2) (N := some 64) (v := ?_) (a' := ?_) #[true, true, true, false, false, false, false, false] rfl rfl (by kernel_rfl) (fun _ _ _ h => h) (Or.inl ⟨by rfl, ?_⟩) ?_ ?_
  rotate_left
  · (intro w'; go_simp; first | done | with_reducible rfl | rfl | (simp [Instr.field, go_sem]; rfl))
  rotate_left
  · (simp only [Act.put, List.setIfInBounds_toArray, List.set_cons_zero, List.set_cons_succ, i64_w, i32_w]; rfl)
  refine pure_ (i := 3) (N := some 65) (v := ?_) (a' := ?_) #[true, true, true, true, false, false, false, false] rfl rfl (by kernel_rfl) (fun _ _ _ h => h) (Or.inl ⟨by rfl, ?_⟩) ?_ ?_
  rotate_left
  · (intro w'; go_simp; first | done | with_reducible rfl | rfl | (simp [Instr.field, go_sem]; rfl))
  rotate_left
  · (simp only [Act.put, List.setIfInBounds_toArray, List.set_cons_zero, List.set_cons_succ, i64_w, i32_w]; rfl)
  refine pure_ (i := 4) (N := some 66) (v := ?_) (a' := ?_) #[true, true, true, true, true, false, false, false] rfl rfl (by kernel_rfl) (fun _ _ _ h => h) (Or.inl ⟨by rfl, ?_⟩) ?_ ?_
  rotate_left
  · (intro w'; go_simp; first | done | with_reducible rfl | rfl | (simp [Instr.field, go_sem]; rfl))
  rotate_left
  · (simp only [Act.put, List.setIfInBounds_toArray, List.set_cons_zero, List.set_cons_succ, i64_w, i32_w]; rfl)
  refine take_ (i := 5) (N := some 67) (v := ?_) (a' := ?_) #[true, true, true, true, true, true, false, false] rfl rfl (by kernel_rfl) (fun _ _ _ h => h) (Or.inl ⟨by rfl, ?_⟩) hHeld ?_ ?_
  rotate_left
  · (intro w' s0; have x0 := (blk_cell (blk_below KTd.out s0) 5).trans (tc_vi _); have x1 := (blk_cell (blk_below KTd.out s0) 6).trans (tc_vm _); go_simp; first | done | with_reducible rfl | rfl | (simp [Instr.field, go_sem]; rfl))
  rotate_left
  · (simp only [Act.put, List.setIfInBounds_toArray, List.set_cons_zero, List.set_cons_succ, i64_w, i32_w]; rfl)
  refine pure_ (i := 6) (N := some 68) (v := .bool false) (a' := ?_) #[true, true, true, true, true, true, true, false] rfl rfl (by kernel_rfl) (fun _ _ _ h => h) (Or.inl ⟨by rfl, ?_⟩) ?_ ?_
  · (intro w'; go_simp; first | done | with_reducible rfl | rfl | (simp [Instr.field, go_sem]; rfl) | simp)
  rotate_left
  · (simp only [Act.put, List.setIfInBounds_toArray, List.set_cons_zero, List.set_cons_succ, i64_w, i32_w]; rfl)
  refine pure_ (i := 7) (N := some 61) (v := .bool false) (a' := ?_) #[true, true, true, true, true, true, true, true] rfl rfl (by kernel_rfl) (fun _ _ _ h => h) (Or.inl ⟨by rfl, ?_⟩) ?_ ?_
  · (intro w'; go_simp; first | done | with_reducible rfl | rfl | (simp [Instr.field, go_sem]; rfl) | simp)
  rotate_left
  · (simp only [Act.put, List.setIfInBounds_toArray, List.set_cons_zero, List.set_cons_succ, i64_w, i32_w]; rfl)
  refine done_ (by kernel_rfl) ?_
  replace B := Aside0.mk (below_step BD.out hHeld)
  replace KL := Aside0.mk (blk_below KLd.out hHeld)
  replace KT := Aside0.mk (blk_below KTd.out hHeld)
  clear hHeld KLd KTd BD
  have ng : Aside0 (g ≠ g1) := ⟨blk_ne KT.out KL.out (by decide)⟩
  have xk := (blk_cell KL.out 0).trans rfl
  go_wp2_with (first
    | (refine wpList_load_row rfl 40 (.tmp 4) rfl g1 rfl 40 #[.int .i64 6, .int .i64 f, .int .i64 s.me, .int .u64 sq, .int .i64 0, .slice none 0 0, .int .u64 s.vi, .int .u64 s.vm, .int .u64 b, .int .u64 od, .int .u64 ni, .int .u64 nm, .int .u64 cut, .slice none 0 0, .slice none 0 0, .float .f64 0] (0, 0) _ KL.out Tryd.underlying40 rfl si40 ?_)
    | (go_at_call 31; refine (freeze_at _ g s r KT.out).mono ?_; rintro e wf ⟨⟨v_, rfl⟩, ht, hk⟩; replace B := Aside0.mk (KeepBut.trans (KeepBut.of_below B.out g none) hk (.inl rfl)); replace KL := Aside0.mk (hk.blk KL.out ng.out.symm (by simp)); replace KT := Aside0.mk ht; clear ht hk)
    | (go_at_call 26; refine (HN.out _ KT.out B.out).mono ?_; rintro e wg ⟨v1, v2, rfl, hq⟩; have HQ := Aside0.mk hq; clear hq))
  go_ret2
  exact ⟨v1, v2, rfl, HQ.out⟩
set_option maxRecDepth 100000 in
set_option maxHeartbeats 4000000 in
theorem hear7 (w : World) (g : Nat) (s : TS) (f sq b od ni nm cut : Int) (r : Int) (Q : Value → Value → World → Prop) (hT : TB w g s) (hf : 0 ≤ f ∧ f < 64) (hm : 0 ≤ s.me ∧ s.me < 64) (hh : band_Has.f s.vm f = some true)
    (hN : ∀ w1, TB w1 g s → KeepBut w w1 g none → Calls Tryd.prog 27 #[.pointer (some ⟨g, 0, none⟩), .agg #[.int .i64 7, .int .i64 f, .int .i64 s.me, .int .u64 sq, .int .i64 0, .slice none 0 0, .int .u64 s.vi, .int .u64 s.vm, .int .u64 b, .int .u64 od, .int .u64 ni, .int .u64 nm, .int .u64 cut, .slice none 0 0, .slice none 0 0, .float .f64 0]] w1 fun e w' => ∃ v1 v2, e = .returned (.tuple #[v1, v2]) ∧ Q v1 v2 w') :
    Calls Tryd.prog 9 #[.pointer (some ⟨g, 0, none⟩), .agg #[.int .i64 7, .int .i64 f, .int .i64 s.me, .int .u64 sq, .int .i64 0, .slice none 0 0, .int .u64 s.vi, .int .u64 s.vm, .int .u64 b, .int .u64 od, .int .u64 ni, .int .u64 nm, .int .u64 cut, .slice none 0 0, .slice none 0 0, .float .f64 0], .int .u64 r] w fun e w' => ∃ v1 v2, e = .returned (.tuple #[v1, v2]) ∧ Q v1 v2 w' := by
  have KT := Aside0.mk hT
  clear hT
  have HN := Aside0.mk hN
  have HF := Aside0.mk hf
  have HM := Aside0.mk hm
  have HH := Aside0.mk hh
  have si40 := si40
  clear hf hm hh hN
  go_enter Tryd.func9, Tryd.ntmps9
  go_upto_region 3 with (first
    | ((with_reducible refine gate_dst (N := 4) rfl ?_); refine box_event ?hg (N := 4) ?hd (cs := #[.int .i64 7, .int .i64 f, .int .i64 s.me, .int .u64 sq, .int .i64 0, .slice none 0 0, .int .u64 s.vi, .int .u64 s.vm, .int .u64 b, .int .u64 od, .int .u64 ni, .int .u64 nm, .int .u64 cut, .slice none 0 0, .slice none 0 0, .float .f64 0]) (t := 40) ?hr ?_; (case hd => rfl); (case hg => rfl); (case hr => first | (go_simp; done) | (go_simp; rfl)); intro g1 hg_ w1 hb_ hB_; have G1 := Aside0.mk hg_; have KL := Aside0.mk hb_; have B := Aside0.mk hB_; replace KT := Aside0.mk (blk_below KT.out hB_); clear hg_ hb_ hB_)
    | ((with_reducible refine gate_dst (N := 11) rfl ?_); refine map_event rfl (N := 11) rfl ?_; intro gm hg_ w2 hb_ hB_; have GM := Aside0.mk (show w.heap.size ≤ gm by rw [hg_]; exact B.out.size); have n1 := Aside0.mk (show g1 ≠ gm by rw [hg_]; exact Nat.ne_of_lt (blk_lt KL.out)); have n2 := Aside0.mk (show g ≠ gm by rw [hg_]; exact Nat.ne_of_lt (blk_lt KT.out)); have KM := Aside0.mk hb_; replace KL := Aside0.mk (blk_below KL.out hB_); replace KT := Aside0.mk (blk_below KT.out hB_); replace B := Aside0.mk (below_step B.out hB_); clear hg_ hb_ hB_)
    | ((with_reducible refine gate_insert 4 rfl ?_); refine insert_event rfl 4 rfl gm rfl (.func (.func 24) #[.pointer (some ⟨g, 0, none⟩)] #[]) rfl #[] 0 KM.out (by rfl) ?_; intro w14 hb_ hB_ ho_; replace KM := Aside0.mk hb_; replace KL : Aside0 (w14.heap[g1]? = some (.cells #[.int .i64 7, .int .i64 f, .int .i64 s.me, .int .u64 sq, .int .i64 0, .slice none 0 0, .int .u64 s.vi, .int .u64 s.vm, .int .u64 b, .int .u64 od, .int .u64 ni, .int .u64 nm, .int .u64 cut, .slice none 0 0, .slice none 0 0, .float .f64 0] 40 (0, 0))) := ⟨(ho_ g1 n1.out).trans KL.out⟩; replace KT : Aside0 (w14.heap[g]? = some (.cells (tc s) 81 (0, 0))) := ⟨(ho_ g n2.out).trans KT.out⟩; replace B := Aside0.mk (B.out.trans (hB_.mono GM.out)); clear hb_ hB_ ho_; have xk4 := (blk_cell KL.out 0).trans rfl)
    | ((with_reducible refine gate_insert 5 rfl ?_); refine insert_event rfl 5 rfl gm rfl (.func (.func 25) #[.pointer (some ⟨g, 0, none⟩)] #[]) rfl (#[].push { key := .int .i64 4, val := .func (.func 24) #[.pointer (some ⟨g, 0, none⟩)] #[], born := 0 }) 1 KM.out (by rfl) ?_; intro w15 hb_ hB_ ho_; replace KM := Aside0.mk hb_; replace KL : Aside0 (w15.heap[g1]? = some (.cells #[.int .i64 7, .int .i64 f, .int .i64 s.me, .int .u64 sq, .int .i64 0, .slice none 0 0, .int .u64 s.vi, .int .u64 s.vm, .int .u64 b, .int .u64 od, .int .u64 ni, .int .u64 nm, .int .u64 cut, .slice none 0 0, .slice none 0 0, .float .f64 0] 40 (0, 0))) := ⟨(ho_ g1 n1.out).trans KL.out⟩; replace KT : Aside0 (w15.heap[g]? = some (.cells (tc s) 81 (0, 0))) := ⟨(ho_ g n2.out).trans KT.out⟩; replace B := Aside0.mk (B.out.trans (hB_.mono GM.out)); clear hb_ hB_ ho_; have xk5 := (blk_cell KL.out 0).trans rfl)
    | ((with_reducible refine gate_insert 6 rfl ?_); refine insert_event rfl 6 rfl gm rfl (.func (.func 26) #[.pointer (some ⟨g, 0, none⟩)] #[]) rfl ((#[].push { key := .int .i64 4, val := .func (.func 24) #[.pointer (some ⟨g, 0, none⟩)] #[], born := 0 }).push { key := .int .i64 5, val := .func (.func 25) #[.pointer (some ⟨g, 0, none⟩)] #[], born := 1 }) 2 KM.out (by rfl) ?_; intro w16 hb_ hB_ ho_; replace KM := Aside0.mk hb_; replace KL : Aside0 (w16.heap[g1]? = some (.cells #[.int .i64 7, .int .i64 f, .int .i64 s.me, .int .u64 sq, .int .i64 0, .slice none 0 0, .int .u64 s.vi, .int .u64 s.vm, .int .u64 b, .int .u64 od, .int .u64 ni, .int .u64 nm, .int .u64 cut, .slice none 0 0, .slice none 0 0, .float .f64 0] 40 (0, 0))) := ⟨(ho_ g1 n1.out).trans KL.out⟩; replace KT : Aside0 (w16.heap[g]? = some (.cells (tc s) 81 (0, 0))) := ⟨(ho_ g n2.out).trans KT.out⟩; replace B := Aside0.mk (B.out.trans (hB_.mono GM.out)); clear hb_ hB_ ho_; have xk6 := (blk_cell KL.out 0).trans rfl)
    | ((with_reducible refine gate_insert 7 rfl ?_); refine insert_event rfl 7 rfl gm rfl (.func (.func 27) #[.pointer (some ⟨g, 0, none⟩)] #[]) rfl (((#[].push { key := .int .i64 4, val := .func (.func 24) #[.pointer (some ⟨g, 0, none⟩)] #[], born := 0 }).push { key := .int .i64 5, val := .func (.func 25) #[.pointer (some ⟨g, 0, none⟩)] #[], born := 1 }).push { key := .int .i64 6, val := .func (.func 26) #[.pointer (some ⟨g, 0, none⟩)] #[], born := 2 }) 3 KM.out (by rfl) ?_; intro w17 hb_ hB_ ho_; replace KM := Aside0.mk hb_; replace KL : Aside0 (w17.heap[g1]? = some (.cells #[.int .i64 7, .int .i64 f, .int .i64 s.me, .int .u64 sq, .int .i64 0, .slice none 0 0, .int .u64 s.vi, .int .u64 s.vm, .int .u64 b, .int .u64 od, .int .u64 ni, .int .u64 nm, .int .u64 cut, .slice none 0 0, .slice none 0 0, .float .f64 0] 40 (0, 0))) := ⟨(ho_ g1 n1.out).trans KL.out⟩; replace KT : Aside0 (w17.heap[g]? = some (.cells (tc s) 81 (0, 0))) := ⟨(ho_ g n2.out).trans KT.out⟩; replace B := Aside0.mk (B.out.trans (hB_.mono GM.out)); clear hb_ hB_ ho_; have xk7 := (blk_cell KL.out 0).trans rfl)
    | ((with_reducible refine gate_insert 8 rfl ?_); refine insert_event rfl 8 rfl gm rfl (.func (.func 28) #[.pointer (some ⟨g, 0, none⟩)] #[]) rfl ((((#[].push { key := .int .i64 4, val := .func (.func 24) #[.pointer (some ⟨g, 0, none⟩)] #[], born := 0 }).push { key := .int .i64 5, val := .func (.func 25) #[.pointer (some ⟨g, 0, none⟩)] #[], born := 1 }).push { key := .int .i64 6, val := .func (.func 26) #[.pointer (some ⟨g, 0, none⟩)] #[], born := 2 }).push { key := .int .i64 7, val := .func (.func 27) #[.pointer (some ⟨g, 0, none⟩)] #[], born := 3 }) 4 KM.out (by rfl) ?_; intro w18 hb_ hB_ ho_; replace KM := Aside0.mk hb_; replace KL : Aside0 (w18.heap[g1]? = some (.cells #[.int .i64 7, .int .i64 f, .int .i64 s.me, .int .u64 sq, .int .i64 0, .slice none 0 0, .int .u64 s.vi, .int .u64 s.vm, .int .u64 b, .int .u64 od, .int .u64 ni, .int .u64 nm, .int .u64 cut, .slice none 0 0, .slice none 0 0, .float .f64 0] 40 (0, 0))) := ⟨(ho_ g1 n1.out).trans KL.out⟩; replace KT : Aside0 (w18.heap[g]? = some (.cells (tc s) 81 (0, 0))) := ⟨(ho_ g n2.out).trans KT.out⟩; replace B := Aside0.mk (B.out.trans (hB_.mono GM.out)); clear hb_ hB_ ho_; have xk8 := (blk_cell KL.out 0).trans rfl)
    | ((with_reducible refine gate_insert 9 rfl ?_); refine insert_event rfl 9 rfl gm rfl (.func (.func 29) #[.pointer (some ⟨g, 0, none⟩)] #[]) rfl (((((#[].push { key := .int .i64 4, val := .func (.func 24) #[.pointer (some ⟨g, 0, none⟩)] #[], born := 0 }).push { key := .int .i64 5, val := .func (.func 25) #[.pointer (some ⟨g, 0, none⟩)] #[], born := 1 }).push { key := .int .i64 6, val := .func (.func 26) #[.pointer (some ⟨g, 0, none⟩)] #[], born := 2 }).push { key := .int .i64 7, val := .func (.func 27) #[.pointer (some ⟨g, 0, none⟩)] #[], born := 3 }).push { key := .int .i64 8, val := .func (.func 28) #[.pointer (some ⟨g, 0, none⟩)] #[], born := 4 }) 5 KM.out (by rfl) ?_; intro w19 hb_ hB_ ho_; replace KM := Aside0.mk hb_; replace KL : Aside0 (w19.heap[g1]? = some (.cells #[.int .i64 7, .int .i64 f, .int .i64 s.me, .int .u64 sq, .int .i64 0, .slice none 0 0, .int .u64 s.vi, .int .u64 s.vm, .int .u64 b, .int .u64 od, .int .u64 ni, .int .u64 nm, .int .u64 cut, .slice none 0 0, .slice none 0 0, .float .f64 0] 40 (0, 0))) := ⟨(ho_ g1 n1.out).trans KL.out⟩; replace KT : Aside0 (w19.heap[g]? = some (.cells (tc s) 81 (0, 0))) := ⟨(ho_ g n2.out).trans KT.out⟩; replace B := Aside0.mk (B.out.trans (hB_.mono GM.out)); clear hb_ hB_ ho_; have xk9 := (blk_cell KL.out 0).trans rfl)
    | ((with_reducible refine gate_dst (N := 29) rfl ?_); refine lookup_event rfl rfl gm rfl 7 rfl ((((((#[].push { key := .int .i64 4, val := .func (.func 24) #[.pointer (some ⟨g, 0, none⟩)] #[], born := 0 }).push { key := .int .i64 5, val := .func (.func 25) #[.pointer (some ⟨g, 0, none⟩)] #[], born := 1 }).push { key := .int .i64 6, val := .func (.func 26) #[.pointer (some ⟨g, 0, none⟩)] #[], born := 2 }).push { key := .int .i64 7, val := .func (.func 27) #[.pointer (some ⟨g, 0, none⟩)] #[], born := 3 }).push { key := .int .i64 8, val := .func (.func 28) #[.pointer (some ⟨g, 0, none⟩)] #[], born := 4 }).push { key := .int .i64 9, val := .func (.func 29) #[.pointer (some ⟨g, 0, none⟩)] #[], born := 5 }) 6 KM.out 3 (.func (.func 27) #[.pointer (some ⟨g, 0, none⟩)] #[]) (by rfl) ?_))
  clear KM n1 n2
  refine start_ (n := 29) (S := fun w' => Below w19.drew.heap.size w19.drew w') (ds := []) #[false, false, false, false, false, false, false, false, false, false, false, false, false, false, false, false, false, false, false, false, false, false, false, false, false, false, false, false, false] (by kernel_rfl) rfl rfl (Below.refl _ _) (fun hHeld => ?_)
  have KLd := Aside0.mk (blk_drew KL.out)
  have KTd : Aside0 (w19.drew.heap[g]? = some (.cells (tc s) 81 (0, 0))) := ⟨blk_drew KT.out⟩
  have BD := Aside0.mk (below_drew1 B.out)
  generalize w19.drew = wd at KTd KLd BD hHeld ⊢
  refine take_ (i := 0) (N := some 33) (v := ?_) (a' := ?_) #[true, false, false, false, false, false, false, false, false, false, false, false, false, false, false, false, false, false, false, false, false, false, false, false, false, false, false, false, false] rfl rfl (by kernel_rfl) (fun _ _ _ h => h) (Or.inl ⟨by rfl, ?_⟩) hHeld ?_ ?_
  rotate_left
  · (intro w' s0; refine row_yields40 (.tmp 4) ?h1 _ ?h2 _ (blk_below KLd.out s0) si40; (case h1 => rfl); (case h2 => first | rfl | kernel_rfl))
  rotate_left
  · (simp only [Act.put, List.setIfInBounds_toArray, List.set_cons_zero, List.set_cons_succ, i64_w, i32_w]; rfl)
  refine one_ (i := 1) (N := some 34) #[true, true, false, false, false, false, false, false, false, false, false, false, false, false, false, false, false, false, false, false, false, false, false, false, false, false, false, false, false] rfl rfl (by kernel_rfl) (by decide) (fun K hK => ?_)
  refine goes_ Tryd.func30 (by kernel_rfl) rfl #[.agg #[.int .i64 7, .int .i64 f, .int .i64 s.me, .int .u64 sq, .int .i64 0, .slice none 0 0, .int .u64 s.vi, .int .u64 s.vm, .int .u64 b, .int .u64 od, .int .u64 ni, .int .u64 nm, .int .u64 cut, .slice none 0 0, .slice none 0 0, .float .f64 0]] (by rfl) rfl rfl (by (try simp only [List.map_toArray, List.map_cons, List.map_nil]); first | done | rfl) ?_
  refine (may_yes 7 f s.me sq s.vi s.vm b od ni nm cut _ (by decide) HF.out HM.out).mono ?_
  rintro e wa ⟨rfl, hb⟩
  have hHe := below_step hHeld hb
  clear hHeld
  clear hb
  refine ⟨_, rfl, ?_⟩
  refine hK _ _ hHe (fun hHeld => ?_)
  clear hK K hHe
  refine norm_ (a' := ?_) ?_ ?_
  rotate_left
  · (show Act.put _ (some 34) _ = _; simp only [Act.put, List.setIfInBounds_toArray, List.set_cons_zero, List.set_cons_succ, i64_w, i32_w]; rfl)
  refine pure_ (i := 2) (N := some 35) (v := .bool false) (a' := ?_) #[true, true, true, false, false, false, false, false, false, false, false, false, false, false, false, false, false, false, false, false, false, false, false, false, false, false, false, false, false] rfl rfl (by kernel_rfl) (fun _ _ _ h => h) (Or.inl ⟨by rfl, ?_⟩) ?_ ?_
  · (intro w'; go_simp; first | done | with_reducible rfl | rfl | (simp [Instr.field, go_sem]; rfl) | simp)
  rotate_left
  · (simp only [Act.put, List.setIfInBounds_toArray, List.set_cons_zero, List.set_cons_succ, i64_w, i32_w]; rfl)
  refine pure_ (i := 3) (N := some 36) (v := .bool false) (a' := ?_) #[true, true, true, true, false, false, false, false, false, false, false, false, false, false, false, false, false, false, false, false, false, false, false, false, false, false, false, false, false] rfl rfl (by kernel_rfl) (fun _ _ _ h => h) (Or.inl ⟨by rfl, ?_⟩) ?_ ?_
  · (intro w'; go_simp; first | done | with_reducible rfl | rfl | (simp [Instr.field, go_sem]; rfl) | simp)
  rotate_left
  · (simp only [Act.put, List.setIfInBounds_toArray, List.set_cons_zero, List.set_cons_succ, i64_w, i32_w]; rfl)
  refine pure_ (i := 4) (N := some 37) (v := ?_) (a' := ?_) #[true, true, true, true, true, false, false, false, false, false, false, false, false, false, false, false, false, false, false, false, false, false, false, false, false, false, false, false, false] rfl rfl (by kernel_rfl) (fun _ _ _ h => h) (Or.inl ⟨by rfl, ?_⟩) ?_ ?_
  rotate_left
  · (intro w'; go_simp; first | done | with_reducible rfl | rfl | (simp [Instr.field, go_sem]; rfl))
  rotate_left
  · (simp only [Act.put, List.setIfInBounds_toArray, List.set_cons_zero, List.set_cons_succ, i64_w, i32_w]; rfl)
  refine take_ (i := 5) (N := some 38) (v := ?_) (a' := ?_) #[true, true, true, true, true, true, false, false, false, false, false, false, false, false, false, false, false, false, false, false, false, false, false, false, false, false, false, false, false] rfl rfl (by kernel_rfl) (fun _ _ _ h => h) (Or.inl ⟨by rfl, ?_⟩) hHeld ?_ ?_
  rotate_left
  · (intro w' s0; have x0 := (blk_cell (blk_below KLd.out s0) 2).trans rfl; go_simp; first | done | with_reducible rfl | rfl | (simp [Instr.field, go_sem]; rfl))
  rotate_left
  · (simp only [Act.put, List.setIfInBounds_toArray, List.set_cons_zero, List.set_cons_succ, i64_w, i32_w]; rfl)
  refine pure_ (i := 6) (N := some 39) (v := ?_) (a' := ?_) #[true, true, true, true, true, true, true, false, false, false, false, false, false, false, false, false, false, false, false, false, false, false, false, false, false, false, false, false, false] rfl rfl (by kernel_rfl) (fun _ _ _ h => h) (Or.inl ⟨by rfl, ?_⟩) ?_ ?_
  rotate_left
  · (intro w'; go_simp; first | done | with_reducible rfl | rfl | (simp [Instr.field, go_sem]; rfl))
  rotate_left
  · (simp only [Act.put, List.setIfInBounds_toArray, List.set_cons_zero, List.set_cons_succ, i64_w, i32_w]; rfl)
  refine pure_ (i := 7) (N := some 40) (v := ?_) (a' := ?_) #[true, true, true, true, true, true, true, true, false, false, false, false, false, false, false, false, false, false, false, false, false, false, false, false, false, false, false, false, false] rfl rfl (by kernel_rfl) (fun _ _ _ h => h) (Or.inl ⟨by rfl, ?_⟩) ?_ ?_
  rotate_left
  · (intro w'; go_simp; first | done | with_reducible rfl | rfl | (simp [Instr.field, go_sem]; rfl))
  rotate_left
  · (simp only [Act.put, List.setIfInBounds_toArray, List.set_cons_zero, List.set_cons_succ, i64_w, i32_w]; rfl)
  refine pure_ (i := 8) (N := some 41) (v := ?_) (a' := ?_) #[true, true, true, true, true, true, true, true, true, false, false, false, false, false, false, false, false, false, false, false, false, false, false, false, false, false, false, false, false] rfl rfl (by kernel_rfl) (fun _ _ _ h => h) (Or.inl ⟨by rfl, ?_⟩) ?_ ?_
  rotate_left
  · (intro w'; go_simp; first | done | with_reducible rfl | rfl | (simp [Instr.field, go_sem]; rfl))
  rotate_left
  · (simp only [Act.put, List.setIfInBounds_toArray, List.set_cons_zero, List.set_cons_succ, i64_w, i32_w]; rfl)
  refine take_ (i := 9) (N := some 42) (v := ?_) (a' := ?_) #[true, true, true, true, true, true, true, true, true, true, false, false, false, false, false, false, false, false, false, false, false, false, false, false, false, false, false, false, false] rfl rfl (by kernel_rfl) (fun _ _ _ h => h) (Or.inl ⟨by rfl, ?_⟩) hHeld ?_ ?_
  rotate_left
  · (intro w' s0; have x0 := (blk_cell (blk_below KTd.out s0) 4).trans (tc_me _); go_simp; first | done | with_reducible rfl | rfl | (simp [Instr.field, go_sem]; rfl))
  rotate_left
  · (simp only [Act.put, List.setIfInBounds_toArray, List.set_cons_zero, List.set_cons_succ, i64_w, i32_w]; rfl)
  refine pure_ (i := 10) (N := some 43) (v := .bool false) (a' := ?_) #[true, true, true, true, true, true, true, true, true, true, true, false, false, false, false, false, false, false, false, false, false, false, false, false, false, false, false, false, false] rfl rfl (by kernel_rfl) (fun _ _ _ h => h) (Or.inl ⟨by rfl, ?_⟩) ?_ ?_
  · (intro w'; go_simp; first | done | with_reducible rfl | rfl | (simp [Instr.field, go_sem]; rfl) | simp)
  rotate_left
  · (simp only [Act.put, List.setIfInBounds_toArray, List.set_cons_zero, List.set_cons_succ, i64_w, i32_w]; rfl)
  refine pure_ (i := 11) (N := some 44) (v := .bool false) (a' := ?_) #[true, true, true, true, true, true, true, true, true, true, true, true, false, false, false, false, false, false, false, false, false, false, false, false, false, false, false, false, false] rfl rfl (by kernel_rfl) (fun _ _ _ h => h) (Or.inl ⟨by rfl, ?_⟩) ?_ ?_
  · (intro w'; go_simp; first | done | with_reducible rfl | rfl | (simp [Instr.field, go_sem]; rfl) | simp)
  rotate_left
  · (simp only [Act.put, List.setIfInBounds_toArray, List.set_cons_zero, List.set_cons_succ, i64_w, i32_w]; rfl)
  refine pure_ (i := 12) (N := some 45) (v := .bool false) (a' := ?_) #[true, true, true, true, true, true, true, true, true, true, true, true, true, false, false, false, false, false, false, false, false, false, false, false, false, false, false, false, false] rfl rfl (by kernel_rfl) (fun _ _ _ h => h) (Or.inl ⟨by rfl, ?_⟩) ?_ ?_
  · (intro w'; go_simp; first | done | with_reducible rfl | rfl | (simp [Instr.field, go_sem]; rfl) | simp)
  rotate_left
  · (simp only [Act.put, List.setIfInBounds_toArray, List.set_cons_zero, List.set_cons_succ, i64_w, i32_w]; rfl)
  refine pure_ (i := 13) (N := some 46) (v := ?_) (a' := ?_) #[true, true, true, true, true, true, true, true, true, true, true, true, true, true, false, false, false, false, false, false, false, false, false, false, false, false, false, false, false] rfl rfl (by kernel_rfl) (fun _ _ _ h => h) (Or.inl ⟨by rfl, ?_⟩) ?_ ?_
  rotate_left
  · (intro w'; go_simp; first | done | with_reducible rfl | rfl | (simp [Instr.field, go_sem]; rfl))
  rotate_left
  · (simp only [Act.put, List.setIfInBounds_toArray, List.set_cons_zero, List.set_cons_succ, i64_w, i32_w]; rfl)
  refine take_ (i := 14) (N := some 47) (v := ?_) (a' := ?_) #[true, true, true, true, true, true, true, true, true, true, true, true, true, true, true, false, false, false, false, false, false, false, false, false, false, false, false, false, false] rfl rfl (by kernel_rfl) (fun _ _ _ h => h) (Or.inl ⟨by rfl, ?_⟩) hHeld ?_ ?_
  rotate_left
  · (intro w' s0; have x0 := (blk_cell (blk_below KLd.out s0) 0).trans rfl; go_simp; first | done | with_reducible rfl | rfl | (simp [Instr.field, go_sem]; rfl))
  rotate_left
  · (simp only [Act.put, List.setIfInBounds_toArray, List.set_cons_zero, List.set_cons_succ, i64_w, i32_w]; rfl)
  refine pure_ (i := 15) (N := some 48) (v := .bool true) (a' := ?_) #[true, true, true, true, true, true, true, true, true, true, true, true, true, true, true, true, false, false, false, false, false, false, false, false, false, false, false, false, false] rfl rfl (by kernel_rfl) (fun _ _ _ h => h) (Or.inl ⟨by rfl, ?_⟩) ?_ ?_
  · (intro w'; go_simp; first | done | with_reducible rfl | rfl | (simp [Instr.field, go_sem]; rfl) | simp)
  rotate_left
  · (simp only [Act.put, List.setIfInBounds_toArray, List.set_cons_zero, List.set_cons_succ, i64_w, i32_w]; rfl)
  refine pure_ (i := 16) (N := some 49) (v := .bool true) (a' := ?_) #[true, true, true, true, true, true, true, true, true, true, true, true, true, true, true, true, true, false, false, false, false, false, false, false, false, false, false, false, false] rfl rfl (by kernel_rfl) (fun _ _ _ h => h) (Or.inl ⟨by rfl, ?_⟩) ?_ ?_
  · (intro w'; go_simp; first | done | with_reducible rfl | rfl | (simp [Instr.field, go_sem]; rfl) | simp)
  rotate_left
  · (simp only [Act.put, List.setIfInBounds_toArray, List.set_cons_zero, List.set_cons_succ, i64_w, i32_w]; rfl)
  refine pure_ (i := 17) (N := some 50) (v := ?_) (a' := ?_) #[true, true, true, true, true, true, true, true, true, true, true, true, true, true, true, true, true, true, false, false, false, false, false, false, false, false, false, false, false] rfl rfl (by kernel_rfl) (fun _ _ _ h => h) (Or.inl ⟨by rfl, ?_⟩) ?_ ?_
  rotate_left
  · (intro w'; go_simp; first | done | with_reducible rfl | rfl | (simp [Instr.field, go_sem]; rfl))
  rotate_left
  · (simp only [Act.put, List.setIfInBounds_toArray, List.set_cons_zero, List.set_cons_succ, i64_w, i32_w]; rfl)
  refine pure_ (i := 18) (N := some 51) (v := ?_) (a' := ?_) #[true, true, true, true, true, true, true, true, true, true, true, true, true, true, true, true, true, true, true, false, false, false, false, false, false, false, false, false, false] rfl rfl (by kernel_rfl) (fun _ _ _ h => h) (Or.inl ⟨by rfl, ?_⟩) ?_ ?_
  rotate_left
  · (intro w'; go_simp; first | done | with_reducible rfl | rfl | (simp [Instr.field, go_sem]; rfl))
  rotate_left
  · (simp only [Act.put, List.setIfInBounds_toArray, List.set_cons_zero, List.set_cons_succ, i64_w, i32_w]; rfl)
  refine pure_ (i := 19) (N := some 52) (v := ?_) (a' := ?_) #[true, true, true, true, true, true, true, true, true, true, true, true, true, true, true, true, true, true, true, true, false, false, false, false, false, false, false, false, false] rfl rfl (by kernel_rfl) (fun _ _ _ h => h) (Or.inl ⟨by rfl, ?_⟩) ?_ ?_
  rotate_left
  · (intro w'; go_simp; first | done | with_reducible rfl | rfl | (simp [Instr.field, go_sem]; rfl))
  rotate_left
  · (simp only [Act.put, List.setIfInBounds_toArray, List.set_cons_zero, List.set_cons_succ, i64_w, i32_w]; rfl)
  refine pure_ (i := 20) (N := some 53) (v := ?_) (a' := ?_) #[true, true, true, true, true, true, true, true, true, true, true, true, true, true, true, true, true, true, true, true, true, false, false, false, false, false, false, false, false] rfl rfl (by kernel_rfl) (fun _ _ _ h => h) (Or.inl ⟨by rfl, ?_⟩) ?_ ?_
  rotate_left
  · (intro w'; go_simp; first | done | with_reducible rfl | rfl | (simp [Instr.field, go_sem]; rfl))
  rotate_left
  · (simp only [Act.put, List.setIfInBounds_toArray, List.set_cons_zero, List.set_cons_succ, i64_w, i32_w]; rfl)
  refine take_ (i := 21) (N := some 54) (v := ?_) (a' := ?_) #[true, true, true, true, true, true, true, true, true, true, true, true, true, true, true, true, true, true, true, true, true, true, false, false, false, false, false, false, false] rfl rfl (by kernel_rfl) (fun _ _ _ h => h) (Or.inl ⟨by rfl, ?_⟩) hHeld ?_ ?_
  rotate_left
  · (intro w' s0; have x0 := (blk_cell (blk_below KTd.out s0) 6).trans (tc_vm _); go_simp; first | done | with_reducible rfl | rfl | (simp [Instr.field, go_sem]; rfl))
  rotate_left
  · (simp only [Act.put, List.setIfInBounds_toArray, List.set_cons_zero, List.set_cons_succ, i64_w, i32_w]; rfl)
  refine pure_ (i := 22) (N := some 55) (v := ?_) (a' := ?_) #[true, true, true, true, true, true, true, true, true, true, true, true, true, true, true, true, true, true, true, true, true, true, true, false, false, false, false, false, false] rfl rfl (by kernel_rfl) (fun _ _ _ h => h) (Or.inl ⟨by rfl, ?_⟩) ?_ ?_
  rotate_left
  · (intro w'; go_simp; first | done | with_reducible rfl | rfl | (simp [Instr.field, go_sem]; rfl))
  rotate_left
  · (simp only [Act.put, List.setIfInBounds_toArray, List.set_cons_zero, List.set_cons_succ, i64_w, i32_w]; rfl)
  refine take_ (i := 23) (N := some 56) (v := ?_) (a' := ?_) #[true, true, true, true, true, true, true, true, true, true, true, true, true, true, true, true, true, true, true, true, true, true, true, true, false, false, false, false, false] rfl rfl (by kernel_rfl) (fun _ _ _ h => h) (Or.inl ⟨by rfl, ?_⟩) hHeld ?_ ?_
  rotate_left
  · (intro w' s0; have x0 := (blk_cell (blk_below KLd.out s0) 1).trans rfl; go_simp; first | done | with_reducible rfl | rfl | (simp [Instr.field, go_sem]; rfl))
  rotate_left
  · (simp only [Act.put, List.setIfInBounds_toArray, List.set_cons_zero, List.set_cons_succ, i64_w, i32_w]; rfl)
  refine one_ (i := 24) (N := some 57) #[true, true, true, true, true, true, true, true, true, true, true, true, true, true, true, true, true, true, true, true, true, true, true, true, true, false, false, false, false] rfl rfl (by kernel_rfl) (by decide) (fun K hK => ?_)
  refine goes_ Tryd.func23 (by kernel_rfl) rfl #[.int .u64 s.vm, .int .i64 f] (by rfl) rfl rfl (by (try simp only [List.map_toArray, List.map_cons, List.map_nil]); first | done | rfl) ?_
  refine (band_Has.calls s.vm f true _ HH.out).mono ?_
  rintro e wb ⟨rfl, hd⟩
  have hHe := below_step hHeld (Drawn0.below hd)
  clear hHeld hd
  refine ⟨_, rfl, ?_⟩
  refine hK _ _ hHe (fun hHeld => ?_)
  clear hK K hHe
  refine norm_ (a' := ?_) ?_ ?_
  rotate_left
  · (show Act.put _ (some 57) _ = _; simp only [Act.put, List.setIfInBounds_toArray, List.set_cons_zero, List.set_cons_succ, i64_w, i32_w]; rfl)
  refine pure_ (i := 25) (N := some 58) (v := .bool false) (a' := ?_) #[true, true, true, true, true, true, true, true, true, true, true, true, true, true, true, true, true, true, true, true, true, true, true, true, true, true, false, false, false] rfl rfl (by kernel_rfl) (fun _ _ _ h => h) (Or.inl ⟨by rfl, ?_⟩) ?_ ?_
  · (intro w'; go_simp; first | done | with_reducible rfl | rfl | (simp [Instr.field, go_sem]; rfl) | simp)
  rotate_left
  · (simp only [Act.put, List.setIfInBounds_toArray, List.set_cons_zero, List.set_cons_succ, i64_w, i32_w]; rfl)
  refine pure_ (i := 26) (N := some 59) (v := .bool false) (a' := ?_) #[true, true, true, true, true, true, true, true, true, true, true, true, true, true, true, true, true, true, true, true, true, true, true, true, true, true, true, false, false] rfl rfl (by kernel_rfl) (fun _ _ _ h => h) (Or.inl ⟨by rfl, ?_⟩) ?_ ?_
  · (intro w'; go_simp; first | done | with_reducible rfl | rfl | (simp [Instr.field, go_sem]; rfl) | simp)
  rotate_left
  · (simp only [Act.put, List.setIfInBounds_toArray, List.set_cons_zero, List.set_cons_succ, i64_w, i32_w]; rfl)
  refine pure_ (i := 27) (N := some 60) (v := .bool false) (a' := ?_) #[true, true, true, true, true, true, true, true, true, true, true, true, true, true, true, true, true, true, true, true, true, true, true, true, true, true, true, true, false] rfl rfl (by kernel_rfl) (fun _ _ _ h => h) (Or.inl ⟨by rfl, ?_⟩) ?_ ?_
  · (intro w'; go_simp; first | done | with_reducible rfl | rfl | (simp [Instr.field, go_sem]; rfl) | simp)
  rotate_left
  · (simp only [Act.put, List.setIfInBounds_toArray, List.set_cons_zero, List.set_cons_succ, i64_w, i32_w]; rfl)
  refine pure_ (i := 28) (N := some 32) (v := .bool false) (a' := ?_) #[true, true, true, true, true, true, true, true, true, true, true, true, true, true, true, true, true, true, true, true, true, true, true, true, true, true, true, true, true] rfl rfl (by kernel_rfl) (fun _ _ _ h => h) (Or.inl ⟨by rfl, ?_⟩) ?_ ?_
  · (intro w'; go_simp; first | done | with_reducible rfl | rfl | (simp [Instr.field, go_sem]; rfl) | simp)
  rotate_left
  · (simp only [Act.put, List.setIfInBounds_toArray, List.set_cons_zero, List.set_cons_succ, i64_w, i32_w]; rfl)
  refine done_ (by kernel_rfl) ?_
  replace B := Aside0.mk (below_step BD.out hHeld)
  replace KL := Aside0.mk (blk_below KLd.out hHeld)
  replace KT := Aside0.mk (blk_below KTd.out hHeld)
  clear hHeld KLd KTd BD
  rename World => wq
  go_wp2
  refine start_ (n := 8) (S := fun w' => Below wq.drew.heap.size wq.drew w') (ds := []) #[false, false, false, false, false, false, false, false] (by kernel_rfl) rfl rfl (Below.refl _ _) (fun hHeld => ?_)
  have KLd := Aside0.mk (blk_drew KL.out)
  have KTd : Aside0 (wq.drew.heap[g]? = some (.cells (tc s) 81 (0, 0))) := ⟨blk_drew KT.out⟩
  have BD := Aside0.mk (below_drew1 B.out)
  generalize wq.drew = we at KTd KLd BD hHeld ⊢
  refine pure_ (i := 0) (N := some 62) (v := ?_) (a' := ?_) #[true, false, false, false, false, false, false, false] rfl rfl (by kernel_rfl) (fun _ _ _ h => h) (Or.inl ⟨by rfl, ?_⟩) ?_ ?_
  rotate_left
  · (intro w'; go_simp; first | done | with_reducible rfl | rfl | (simp [Instr.field, go_sem]; rfl))
  rotate_left
  · (simp only [Act.put, List.setIfInBounds_toArray, List.set_cons_zero, List.set_cons_succ, i64_w, i32_w]; rfl)
  refine take_ (i := 1) (N := some 63) (v := ?_) (a' := ?_) #[true, true, false, false, false, false, false, false] rfl rfl (by kernel_rfl) (fun _ _ _ h => h) (Or.inl ⟨by rfl, ?_⟩) hHeld ?_ ?_
  rotate_left
  · (intro w' s0; have x0 := (blk_cell (blk_below KLd.out s0) 6).trans rfl; have x1 := (blk_cell (blk_below KLd.out s0) 7).trans rfl; go_simp; first | done | with_reducible rfl | rfl | (simp [Instr.field, go_sem]; rfl))
  rotate_left
  · (simp only [Act.put, List.setIfInBounds_toArray, List.set_cons_zero, List.set_cons_succ, i64_w, i32_w]; rfl)
  refine pure_ (i := 2) (N := some 64) (v := ?_) (a' := ?_) #[true, true, true, false, false, false, false, false] rfl rfl (by kernel_rfl) (fun _ _ _ h => h) (Or.inl ⟨by rfl, ?_⟩) ?_ ?_
  rotate_left
  · (intro w'; go_simp; first | done | with_reducible rfl | rfl | (simp [Instr.field, go_sem]; rfl))
  rotate_left
  · (simp only [Act.put, List.setIfInBounds_toArray, List.set_cons_zero, List.set_cons_succ, i64_w, i32_w]; rfl)
  refine pure_ (i := 3) (N := some 65) (v := ?_) (a' := ?_) #[true, true, true, true, false, false, false, false] rfl rfl (by kernel_rfl) (fun _ _ _ h => h) (Or.inl ⟨by rfl, ?_⟩) ?_ ?_
  rotate_left
  · (intro w'; go_simp; first | done | with_reducible rfl | rfl | (simp [Instr.field, go_sem]; rfl))
  rotate_left
  · (simp only [Act.put, List.setIfInBounds_toArray, List.set_cons_zero, List.set_cons_succ, i64_w, i32_w]; rfl)
  refine pure_ (i := 4) (N := some 66) (v := ?_) (a' := ?_) #[true, true, true, true, true, false, false, false] rfl rfl (by kernel_rfl) (fun _ _ _ h => h) (Or.inl ⟨by rfl, ?_⟩) ?_ ?_
  rotate_left
  · (intro w'; go_simp; first | done | with_reducible rfl | rfl | (simp [Instr.field, go_sem]; rfl))
  rotate_left
  · (simp only [Act.put, List.setIfInBounds_toArray, List.set_cons_zero, List.set_cons_succ, i64_w, i32_w]; rfl)
  refine take_ (i := 5) (N := some 67) (v := ?_) (a' := ?_) #[true, true, true, true, true, true, false, false] rfl rfl (by kernel_rfl) (fun _ _ _ h => h) (Or.inl ⟨by rfl, ?_⟩) hHeld ?_ ?_
  rotate_left
  · (intro w' s0; have x0 := (blk_cell (blk_below KTd.out s0) 5).trans (tc_vi _); have x1 := (blk_cell (blk_below KTd.out s0) 6).trans (tc_vm _); go_simp; first | done | with_reducible rfl | rfl | (simp [Instr.field, go_sem]; rfl))
  rotate_left
  · (simp only [Act.put, List.setIfInBounds_toArray, List.set_cons_zero, List.set_cons_succ, i64_w, i32_w]; rfl)
  refine pure_ (i := 6) (N := some 68) (v := .bool false) (a' := ?_) #[true, true, true, true, true, true, true, false] rfl rfl (by kernel_rfl) (fun _ _ _ h => h) (Or.inl ⟨by rfl, ?_⟩) ?_ ?_
  · (intro w'; go_simp; first | done | with_reducible rfl | rfl | (simp [Instr.field, go_sem]; rfl) | simp)
  rotate_left
  · (simp only [Act.put, List.setIfInBounds_toArray, List.set_cons_zero, List.set_cons_succ, i64_w, i32_w]; rfl)
  refine pure_ (i := 7) (N := some 61) (v := .bool false) (a' := ?_) #[true, true, true, true, true, true, true, true] rfl rfl (by kernel_rfl) (fun _ _ _ h => h) (Or.inl ⟨by rfl, ?_⟩) ?_ ?_
  · (intro w'; go_simp; first | done | with_reducible rfl | rfl | (simp [Instr.field, go_sem]; rfl) | simp)
  rotate_left
  · (simp only [Act.put, List.setIfInBounds_toArray, List.set_cons_zero, List.set_cons_succ, i64_w, i32_w]; rfl)
  refine done_ (by kernel_rfl) ?_
  replace B := Aside0.mk (below_step BD.out hHeld)
  replace KL := Aside0.mk (blk_below KLd.out hHeld)
  replace KT := Aside0.mk (blk_below KTd.out hHeld)
  clear hHeld KLd KTd BD
  have ng : Aside0 (g ≠ g1) := ⟨blk_ne KT.out KL.out (by decide)⟩
  have xk := (blk_cell KL.out 0).trans rfl
  go_wp2_with (first
    | (refine wpList_load_row rfl 40 (.tmp 4) rfl g1 rfl 40 #[.int .i64 7, .int .i64 f, .int .i64 s.me, .int .u64 sq, .int .i64 0, .slice none 0 0, .int .u64 s.vi, .int .u64 s.vm, .int .u64 b, .int .u64 od, .int .u64 ni, .int .u64 nm, .int .u64 cut, .slice none 0 0, .slice none 0 0, .float .f64 0] (0, 0) _ KL.out Tryd.underlying40 rfl si40 ?_)
    | (go_at_call 27; refine (HN.out _ KT.out (KeepBut.of_below B.out g none)).mono ?_; rintro e wg ⟨v1, v2, rfl, hq⟩; have HQ := Aside0.mk hq; clear hq))
  go_ret2
  exact ⟨v1, v2, rfl, HQ.out⟩
end Go.Proofs.YtkjjegakfceibaaDoor.B
