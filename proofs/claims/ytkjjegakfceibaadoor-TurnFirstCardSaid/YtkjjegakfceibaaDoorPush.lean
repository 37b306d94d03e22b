/- By hand: Push, when it alone promised (printed by push.py). -/
import Derived.Test.YtkjjegakfceibaaDoorChain3
namespace Go.Proofs.YtkjjegakfceibaaDoor.B
open Go.RowKit Go.Proofs.YtkjjegakfceibaaDoorW.PrintWords Go.Proofs.YtkjjegakfceibaaDoorW.PrintLast Go.Proofs.YtkjjegakfceibaaDoorW.PrintMore
set_option linter.unusedSimpArgs false
set_option linter.unusedVariables false
theorem mid_P (a b : List Value) (z : Value) (m i : Nat) (h0 : a.length ≤ i) (h1 : i < a.length + m) : (⟨a ++ List.replicate m z ++ b⟩ : Array Value)[i]? = some z := by
  rw [← Array.getElem?_toList]
  show (a ++ List.replicate m z ++ b)[i]? = some z
  rw [List.append_assoc, List.getElem?_append_right h0, List.getElem?_append_left (by simp; omega), List.getElem?_replicate, if_pos (by omega)]
theorem tc_P (s : TS) (i : Nat) (h0 : 14 ≤ i) (h1 : i < 206) : (tc s)[i]? = some (.int .u64 0) := by
  unfold tc
  exact mid_P _ _ _ _ i h0 h1
theorem info74 : (Tryd.prog.info? 74).map (fun i => (i.zero, i.size, i.bytes)) = some (some (.agg #[.int .u64 0, .int .u64 0, .int .u64 0]), 3, 24) := by kernel_rfl
theorem promise_run (w : World) : (Instr.buildSlice 100 1 #[(0, .agg #[.int .u64 0, .int .u64 0, .int .u64 0])]).run Tryd.prog w = .ok (.slice (some ⟨w.heap.size, 0, none⟩) 1 1) (w.alloc (.cells #[.int .u64 0, .int .u64 0, .int .u64 0] 74 (0, 0))) := by kernel_rfl
theorem promise_raw {ops : Array Oper} {rest : List Oper} {o : Oper} {a : Act} {W : World} {Q : Exit → Act → World → Prop} (hgd : o.guard = none) {x : Operand} (ho : o.op = .buildSlice 100 1 #[(0, x)]) (hx : a.eval x = .agg #[.int .u64 0, .int .u64 0, .int .u64 0])
    (h : wpList Tryd.prog ops Q rest (a.put o.dst (.slice (some ⟨W.heap.size, 0, none⟩) 1 1)) (W.alloc (.cells #[.int .u64 0, .int .u64 0, .int .u64 0] 74 (0, 0)))) : wpList Tryd.prog ops Q (o :: rest) a W := by
  refine Kd.event_run hgd ?_ h
  unfold execOp
  have e : Array.map (fun q : Nat × Operand => (q.1, a.eval q.2)) #[(0, x)] = #[(0, .agg #[.int .u64 0, .int .u64 0, .int .u64 0])] := by simp [hx]
  simp only [ho, e, Sem.run_bind, promise_run, Result.andThen_ok, Sem.run_pure]
set_option maxRecDepth 100000 in
set_option maxHeartbeats 4000000 in
theorem push_me (w : World) (g : Nat) (s : TS) (n : Nat) (S : TS) (l1 : Int) (xs : List LT) (hT : TB w g s) (hn : n < 64) (hmn : s.me = (n : Int)) (h0 : s.wb ≠ 0) (hdone : s.done = false) (hask : s.asked = false) (hM1 : band_Major.f s.heard s.vm = some true) (hLi : band_List.f s.heard = some [(n : Int)]) (hM2 : band_Major.f (Go.bits .and .u64 s.heard s.live) s.vm = some true)
    (hTab : TabT w) (hme : S.me = s.me) (hvm : S.vm = s.vm) (hle1 : band_Less.f s.vm S.me = some l1) (hli1 : band_List.f l1 = some []) (hlen : xs.length ≤ 64)
    (hH : HearTo g { s with asked := true, wm := Go.bits .or .u64 (Go.bits .and .u64 s.heard s.live) s.joins, wc := s.far } S #[.int .i64 6, .int .i64 s.me, .int .i64 s.me, .int .u64 0, .int .i64 0, .slice none 0 0, .int .u64 s.vi, .int .u64 s.vm, .int .u64 s.wb, .int .u64 0, .int .u64 0, .int .u64 (Go.bits .or .u64 (Go.bits .and .u64 s.heard s.live) s.joins), .int .u64 s.far, .slice none 0 0, .slice none 0 0, .float .f64 0] xs) :
    Calls Tryd.prog 19 #[.pointer (some ⟨g, 0, none⟩)] w fun e w' => ∃ v, e = .returned (.tuple #[v, .int .i64 0]) ∧ RQ w g S xs v w' := by
  have KT := Aside0.mk hT
  clear hT
  have HTab := Aside0.mk hTab
  have HMe := Aside0.mk hme
  have HVm := Aside0.mk hvm
  have HLe1 := Aside0.mk hle1
  have HLi1 := Aside0.mk hli1
  have HN := Aside0.mk hlen
  have HH := Aside0.mk hH
  have HM1 := Aside0.mk hM1
  have HM2 := Aside0.mk hM2
  have HLi := Aside0.mk hLi
  have HMN := Aside0.mk hmn
  have HNN := Aside0.mk hn
  have KT0 := KT
  have GL := Aside0.mk (blk_lt KT.out)
  have B := Aside0.mk (Below.refl w.heap.size w)
  have xwb := (blk_cell KT.out 9).trans (tc_wb s)
  have xdone := ((blk_cell KT.out 211).trans (tc_done s)).trans (by rw [hdone])
  have xask := ((blk_cell KT.out 207).trans (tc_asked s)).trans (by rw [hask])
  have p1 : ((0 : Int) ≤ (n : Int)) = True := eq_true (by omega)
  have p2 : ((n : Int) < 64) = True := eq_true (by omega)
  clear hTab hme hvm hle1 hli1 hlen hH hM1 hM2 hLi hmn hn hdone hask
  go_enter Tryd.func19, Tryd.ntmps19
  go_wp2
  clear xwb xdone xask
  refine start_ (n := 12) (S := fun w' => Below w.drew.heap.size w.drew w') (ds := []) #[false, false, false, false, false, false, false, false, false, false, false, false] (by kernel_rfl) rfl rfl (Below.refl _ _) (fun hHeld => ?_)
  have KTd : Aside0 (w.drew.heap[g]? = some (.cells (tc s) 81 (0, 0))) := ⟨blk_drew KT.out⟩
  have BD := Aside0.mk (below_drew1 B.out)
  generalize w.drew = wd at KTd BD hHeld ⊢
  refine pure_ (i := 0) (N := some 32) (v := ?_) (a' := ?_) #[true, false, false, false, false, false, false, false, false, false, false, false] rfl rfl (by kernel_rfl) (fun _ _ _ h => h) (Or.inl ⟨by rfl, ?_⟩) ?_ ?_
  rotate_left
  · (intro w'; go_simp; first | done | with_reducible rfl | rfl | (simp [Instr.field, go_sem]; rfl))
  rotate_left
  · (simp only [Act.put, List.setIfInBounds_toArray, List.set_cons_zero, List.set_cons_succ, i64_w, i32_w]; rfl)
  refine pure_ (i := 1) (N := some 33) (v := ?_) (a' := ?_) #[true, true, false, false, false, false, false, false, false, false, false, false] rfl rfl (by kernel_rfl) (fun _ _ _ h => h) (Or.inl ⟨by rfl, ?_⟩) ?_ ?_
  rotate_left
  · (intro w'; go_simp; first | done | with_reducible rfl | rfl | (simp [Instr.field, go_sem]; rfl))
  rotate_left
  · (simp only [Act.put, List.setIfInBounds_toArray, List.set_cons_zero, List.set_cons_succ, i64_w, i32_w]; rfl)
  refine pure_ (i := 2) (N := some 34) (v := ?_) (a' := ?_) #[true, true, true, false, false, false, false, false, false, false, false, false] rfl rfl (by kernel_rfl) (fun _ _ _ h => h) (Or.inl ⟨by rfl, ?_⟩) ?_ ?_
  rotate_left
  · (intro w'; go_simp; first | done | with_reducible rfl | rfl | (simp [Instr.field, go_sem]; rfl))
  rotate_left
  · (simp only [Act.put, List.setIfInBounds_toArray, List.set_cons_zero, List.set_cons_succ, i64_w, i32_w]; rfl)
  refine take_ (i := 3) (N := some 35) (v := ?_) (a' := ?_) #[true, true, true, true, false, false, false, false, false, false, false, false] rfl rfl (by kernel_rfl) (fun _ _ _ h => h) (Or.inl ⟨by rfl, ?_⟩) hHeld ?_ ?_
  rotate_left
  · (intro w' s0; have x0 := (blk_cell (blk_below KTd.out s0) 13).trans (tc_heard _); go_simp; first | done | with_reducible rfl | rfl | (simp [Instr.field, go_sem]; rfl))
  rotate_left
  · (simp only [Act.put, List.setIfInBounds_toArray, List.set_cons_zero, List.set_cons_succ, i64_w, i32_w]; rfl)
  refine pure_ (i := 4) (N := some 36) (v := ?_) (a' := ?_) #[true, true, true, true, true, false, false, false, false, false, false, false] rfl rfl (by kernel_rfl) (fun _ _ _ h => h) (Or.inl ⟨by rfl, ?_⟩) ?_ ?_
  rotate_left
  · (intro w'; go_simp; first | done | with_reducible rfl | rfl | (simp [Instr.field, go_sem]; rfl))
  rotate_left
  · (simp only [Act.put, List.setIfInBounds_toArray, List.set_cons_zero, List.set_cons_succ, i64_w, i32_w]; rfl)
  refine pure_ (i := 5) (N := some 37) (v := ?_) (a' := ?_) #[true, true, true, true, true, true, false, false, false, false, false, false] rfl rfl (by kernel_rfl) (fun _ _ _ h => h) (Or.inl ⟨by rfl, ?_⟩) ?_ ?_
  rotate_left
  · (intro w'; go_simp; first | done | with_reducible rfl | rfl | (simp [Instr.field, go_sem]; rfl))
  rotate_left
  · (simp only [Act.put, List.setIfInBounds_toArray, List.set_cons_zero, List.set_cons_succ, i64_w, i32_w]; rfl)
  refine pure_ (i := 6) (N := some 38) (v := ?_) (a' := ?_) #[true, true, true, true, true, true, true, false, false, false, false, false] rfl rfl (by kernel_rfl) (fun _ _ _ h => h) (Or.inl ⟨by rfl, ?_⟩) ?_ ?_
  rotate_left
  · (intro w'; go_simp; first | done | with_reducible rfl | rfl | (simp [Instr.field, go_sem]; rfl))
  rotate_left
  · (simp only [Act.put, List.setIfInBounds_toArray, List.set_cons_zero, List.set_cons_succ, i64_w, i32_w]; rfl)
  refine pure_ (i := 7) (N := some 39) (v := ?_) (a' := ?_) #[true, true, true, true, true, true, true, true, false, false, false, false] rfl rfl (by kernel_rfl) (fun _ _ _ h => h) (Or.inl ⟨by rfl, ?_⟩) ?_ ?_
  rotate_left
  · (intro w'; go_simp; first | done | with_reducible rfl | rfl | (simp [Instr.field, go_sem]; rfl))
  rotate_left
  · (simp only [Act.put, List.setIfInBounds_toArray, List.set_cons_zero, List.set_cons_succ, i64_w, i32_w]; rfl)
  refine take_ (i := 8) (N := some 40) (v := ?_) (a' := ?_) #[true, true, true, true, true, true, true, true, true, false, false, false] rfl rfl (by kernel_rfl) (fun _ _ _ h => h) (Or.inl ⟨by rfl, ?_⟩) hHeld ?_ ?_
  rotate_left
  · (intro w' s0; have x0 := (blk_cell (blk_below KTd.out s0) 6).trans (tc_vm _); go_simp; first | done | with_reducible rfl | rfl | (simp [Instr.field, go_sem]; rfl))
  rotate_left
  · (simp only [Act.put, List.setIfInBounds_toArray, List.set_cons_zero, List.set_cons_succ, i64_w, i32_w]; rfl)
  refine one_ (i := 9) (N := some 41) #[true, true, true, true, true, true, true, true, true, true, false, false] rfl rfl (by kernel_rfl) (by decide) (fun K hK => ?_)
  refine goes_ Tryd.func34 (by kernel_rfl) rfl #[.int .u64 s.heard, .int .u64 s.vm] (by rfl) rfl rfl (by (try simp only [List.map_toArray, List.map_cons, List.map_nil]); first | done | rfl) ?_
  refine (band_Major.calls s.heard s.vm true _ HM1.out).mono ?_
  rintro e w1 ⟨rfl, hd⟩
  have hHe := below_step hHeld (Drawn0.below hd)
  clear hHeld hd
  refine ⟨_, rfl, ?_⟩
  refine hK _ _ hHe (fun hHeld => ?_)
  clear hK K hHe
  refine norm_ (a' := ?_) ?_ ?_
  rotate_left
  · (show Act.put _ (some 41) _ = _; simp only [Act.put, List.setIfInBounds_toArray, List.set_cons_zero, List.set_cons_succ, i64_w, i32_w]; rfl)
  refine pure_ (i := 10) (N := some 42) (v := .bool false) (a' := ?_) #[true, true, true, true, true, true, true, true, true, true, true, false] rfl rfl (by kernel_rfl) (fun _ _ _ h => h) (Or.inl ⟨by rfl, ?_⟩) ?_ ?_
  · (intro w'; go_simp; first | done | with_reducible rfl | rfl | (simp [Instr.field, go_sem]; rfl) | simp)
  rotate_left
  · (simp only [Act.put, List.setIfInBounds_toArray, List.set_cons_zero, List.set_cons_succ, i64_w, i32_w]; rfl)
  refine pure_ (i := 11) (N := some 31) (v := .bool false) (a' := ?_) #[true, true, true, true, true, true, true, true, true, true, true, true] rfl rfl (by kernel_rfl) (fun _ _ _ h => h) (Or.inl ⟨by rfl, ?_⟩) ?_ ?_
  · (intro w'; go_simp; first | done | with_reducible rfl | rfl | (simp [Instr.field, go_sem]; rfl) | simp)
  rotate_left
  · (simp only [Act.put, List.setIfInBounds_toArray, List.set_cons_zero, List.set_cons_succ, i64_w, i32_w]; rfl)
  refine done_ (by kernel_rfl) ?_
  replace B := Aside0.mk (below_step BD.out hHeld)
  replace KT := Aside0.mk (blk_below KTd.out hHeld)
  clear hHeld KTd BD
  have xh := (blk_cell KT.out 13).trans (tc_heard s)
  go_wp2_with (go_at_call 44; refine (band_List.calls s.heard [(n : Int)] _ HLi.out ⟨tab_belowN HTab.out (tab_pos HTab.out) B.out⟩).mono ?_; rintro e w3 ⟨v0, rfl, hr, hb⟩; obtain ⟨A, c, rfl⟩ := Kd.R_slice hr; have HC := Aside0.mk (Kd.R_reads' hr).2.2; replace KT := Aside0.mk (blk_below KT.out hb); replace B := Aside0.mk (below_step B.out hb); clear hr hb xh)
  have LW := Aside0.mk B.out.size
  go_loopw [5, 49] (fun v i wr => ∃ j : Nat, i = .int .i64 j ∧ Aside0 (j ≤ 1) ∧ Aside0 (Kd.R k74 74 wr w3.heap.size (fun _ => True) v (List.replicate j z74)) ∧ Aside0 (Below w3.heap.size w3 wr))
    (fun _ i _ => 1 - (intOf i).toNat)
  case atStart => exact ⟨0, rfl, ⟨Nat.zero_le _⟩, ⟨Kd.R_nil _ _ _ _ _⟩, ⟨Below.refl _ _⟩⟩
  case round =>
    obtain ⟨j, rfl, hj, HR, BR⟩ := hrel
    by_cases hlt : j < 1
    · obtain ⟨ad, cs, e, _, hK, hc⟩ := Kd.C_get (Kd.C_below HC.out BR.out) (0 : Int) (j : Int) (by omega) (by simp; omega)
      obtain rfl := e
      have hgd : [(n : Int)].getD (j : Int).toNat 0 = (n : Int) := by have h0 : j = 0 := (by omega); subst h0; rfl
      have hK' : cs = [.int .i64 ([(n : Int)].getD (j : Int).toNat 0)] := hK
      rw [hgd] at hK'
      subst hK'
      have hx := hc 0 _ rfl
      have e2 : (ad.add ((j : Int).toNat * (Kd.int IntKind.i64).sz + 0)) = ad.add j := by show ad.add ((j : Int).toNat * 1 + 0) = ad.add j; rw [Nat.mul_one, Nat.add_zero, Int.toNat_natCast]
      rw [e2] at hx
      have hlti : (j : Int) < 1 := by omega
      clear hK hc hgd e2
      have KTr := Aside0.mk (blk_below KT.out BR.out)
      have q0 := (blk_cell KTr.out (14 + n * 3)).trans (tc_P s _ (by omega) (by have := HNN.out; omega))
      have q1 := (blk_cell KTr.out (14 + n * 3 + 1)).trans (tc_P s _ (by omega) (by have := HNN.out; omega))
      have q2 := (blk_cell KTr.out (14 + n * 3 + 2)).trans (tc_P s _ (by omega) (by have := HNN.out; omega))
      have RS := HR
      go_wp2_with (first
        | ((with_reducible refine gate_dst (N := 60) rfl ?_); refine promise_raw rfl rfl rfl ?_)
        | ((with_reducible refine gate_dst (N := 61) rfl ?_); go_loud (refine Kd.R_append k74 (w0 := wr) w3.heap.size rfl (.tmp 53) (.tmp 60) 100 74 (.agg #[.int .u64 0, .int .u64 0, .int .u64 0]) 24 rfl Tryd.underlying100 info74 rfl (by decide) (by decide) u5 (List.replicate j z74) z74 [.int .u64 0, .int .u64 0, .int .u64 0] (fun _ => True) (fun _ => False) rfl rfl (k29_mkM _ _ _ z74) (fun _ h => h.elim) (fun _ _ => trivial) HR.out (Below.refl _ _) BR.out.size (by rw [List.length_replicate]; have := hj.out; omega) ?_); intro v1 w5 hR hb hg hat; have HR5 := Aside0.mk hR; have BR5 := Aside0.mk (BR.out.trans hb); clear hR hb hg hat))
      go_roundw
      case rel => exact ⟨j + 1, by go_num, ⟨hlt⟩, ⟨by rw [List.replicate_succ']; exact HR5.out⟩, BR5⟩
      case measure => simp [intOf]; omega
    · have hj1 : j = 1 := by have := hj.out; omega
      subst hj1
      obtain ⟨A5, c5, e5⟩ := Kd.R_slice HR.out
      subst e5
      have HC5 := Aside0.mk (Kd.R_reads' HR.out)
      have HP : Aside0 (ballot_Pick.f (List.replicate 1 z74) = some (0, 0, false)) := ⟨rfl⟩
      have KTr := Aside0.mk (blk_below KT.out BR.out)
      have BW := Aside0.mk (B.out.trans (BR.out.mono LW.out))
      clear HR BR KT B HC
      go_upto_region 14 with (first
        | (go_at_call 45; refine (ballot_Pick.calls A5 c5 (List.replicate 1 z74) 0 0 false _ HC5.out.2.2 HC5.out.2.1 HP.out).mono ?_; rintro e wp ⟨rfl, hb⟩; replace KTr := Aside0.mk (blk_below KTr.out hb); replace BW := Aside0.mk (below_step BW.out hb); clear hb)
        | ((with_reducible refine gate_dst (N := 8) rfl ?_); refine box_event ?hg (N := 8) ?hd (cs := #[.int .u64 0, .int .u64 0]) (t := 52) ?hr ?_; (case hd => rfl); (case hg => rfl); (case hr => first | (go_simp; done) | (go_simp; rfl)); intro g8 hg_ w8 hb_ hB_; have L8 := Aside0.mk (show w.heap.size ≤ g8 by rw [hg_]; exact BW.out.size); have KZ := Aside0.mk hb_; replace KTr := Aside0.mk (blk_below KTr.out hB_); replace BW := Aside0.mk (below_step BW.out hB_); clear hg_ hb_ hB_; have fr := fun j => blk_frozen KZ.out j; have c0 := (blk_cell KZ.out 0).trans rfl; have c1 := (blk_cell KZ.out 1).trans rfl))
      have n8 : Aside0 (g ≠ g8) := ⟨blk_ne KTr.out KZ.out (by decide)⟩
      have KS : Aside0 (((w8.setCell ⟨g8, 0, none⟩ (.int .u64 0)).setCell ⟨g8, 1, none⟩ (.int .u64 0)).heap[g8]? = some (.cells #[.int .u64 0, .int .u64 0] 52 (0, 0))) := ⟨blk_put (blk_set KZ.out 0 _) 1 _ rfl⟩
      have KTs := Aside0.mk (blk_far (p := ⟨g8, 1, none⟩) (blk_far (p := ⟨g8, 0, none⟩) KTr.out n8.out (.int .u64 0)) n8.out (.int .u64 0))
      have BS := Aside0.mk (below_set (j := 1) (v := .int .u64 0) (below_set (j := 0) (v := .int .u64 0) BW.out L8.out) L8.out)
      clear fr c0 c1 KZ KTr BW
      generalize (w8.setCell ⟨g8, 0, none⟩ (.int .u64 0)).setCell ⟨g8, 1, none⟩ (.int .u64 0) = w9 at KS KTs BS ⊢
      refine start_ (n := 15) (S := fun w' => Below w9.drew.heap.size w9.drew w') (ds := [14]) #[false, false, false, false, false, false, false, false, false, false, false, false, false, false, false] (by kernel_rfl) rfl rfl (Below.refl _ _) (fun hHeld => ?_)
      have KCd := Aside0.mk (blk_drew KS.out)
      have KTd := Aside0.mk (blk_drew KTs.out)
      have BD := Aside0.mk (below_drew1 BS.out)
      clear KS KTs BS
      generalize w9.drew = wa at KCd KTd BD hHeld ⊢
      refine pure_ (i := 0) (N := some 70) (v := ?_) (a' := ?_) #[true, false, false, false, false, false, false, false, false, false, false, false, false, false, false] rfl rfl (by kernel_rfl) (fun _ _ _ h => h) (Or.inl ⟨by rfl, ?_⟩) ?_ ?_
      rotate_left
      · (intro w'; go_simp; first | done | with_reducible rfl | rfl | (simp [Instr.field, go_sem]; rfl))
      rotate_left
      · (simp only [Act.put, List.setIfInBounds_toArray, List.set_cons_zero, List.set_cons_succ, i64_w, i32_w]; rfl)
      refine pure_ (i := 1) (N := some 71) (v := ?_) (a' := ?_) #[true, true, false, false, false, false, false, false, false, false, false, false, false, false, false] rfl rfl (by kernel_rfl) (fun _ _ _ h => h) (Or.inl ⟨by rfl, ?_⟩) ?_ ?_
      rotate_left
      · (intro w'; go_simp; first | done | with_reducible rfl | rfl | (simp [Instr.field, go_sem]; rfl))
      rotate_left
      · (simp only [Act.put, List.setIfInBounds_toArray, List.set_cons_zero, List.set_cons_succ, i64_w, i32_w]; rfl)
      refine pure_ (i := 2) (N := some 72) (v := ?_) (a' := ?_) #[true, true, true, false, false, false, false, false, false, false, false, false, false, false, false] rfl rfl (by kernel_rfl) (fun _ _ _ h => h) (Or.inl ⟨by rfl, ?_⟩) ?_ ?_
      rotate_left
      · (intro w'; go_simp; first | done | with_reducible rfl | rfl | (simp [Instr.field, go_sem]; rfl))
      rotate_left
      · (simp only [Act.put, List.setIfInBounds_toArray, List.set_cons_zero, List.set_cons_succ, i64_w, i32_w]; rfl)
      refine take_ (i := 3) (N := some 73) (v := ?_) (a' := ?_) #[true, true, true, true, false, false, false, false, false, false, false, false, false, false, false] rfl rfl (by kernel_rfl) (fun _ _ _ h => h) (Or.inl ⟨by rfl, ?_⟩) hHeld ?_ ?_
      rotate_left
      · (intro w' s0; have x0 := (blk_cell (blk_below KTd.out s0) 13).trans (tc_heard _); go_simp; first | done | with_reducible rfl | rfl | (simp [Instr.field, go_sem]; rfl))
      rotate_left
      · (simp only [Act.put, List.setIfInBounds_toArray, List.set_cons_zero, List.set_cons_succ, i64_w, i32_w]; rfl)
      refine pure_ (i := 4) (N := some 74) (v := ?_) (a' := ?_) #[true, true, true, true, true, false, false, false, false, false, false, false, false, false, false] rfl rfl (by kernel_rfl) (fun _ _ _ h => h) (Or.inl ⟨by rfl, ?_⟩) ?_ ?_
      rotate_left
      · (intro w'; go_simp; first | done | with_reducible rfl | rfl | (simp [Instr.field, go_sem]; rfl))
      rotate_left
      · (simp only [Act.put, List.setIfInBounds_toArray, List.set_cons_zero, List.set_cons_succ, i64_w, i32_w]; rfl)
      refine pure_ (i := 5) (N := some 75) (v := ?_) (a' := ?_) #[true, true, true, true, true, true, false, false, false, false, false, false, false, false, false] rfl rfl (by kernel_rfl) (fun _ _ _ h => h) (Or.inl ⟨by rfl, ?_⟩) ?_ ?_
      rotate_left
      · (intro w'; go_simp; first | done | with_reducible rfl | rfl | (simp [Instr.field, go_sem]; rfl))
      rotate_left
      · (simp only [Act.put, List.setIfInBounds_toArray, List.set_cons_zero, List.set_cons_succ, i64_w, i32_w]; rfl)
      refine pure_ (i := 6) (N := some 76) (v := ?_) (a' := ?_) #[true, true, true, true, true, true, true, false, false, false, false, false, false, false, false] rfl rfl (by kernel_rfl) (fun _ _ _ h => h) (Or.inl ⟨by rfl, ?_⟩) ?_ ?_
      rotate_left
      · (intro w'; go_simp; first | done | with_reducible rfl | rfl | (simp [Instr.field, go_sem]; rfl))
      rotate_left
      · (simp only [Act.put, List.setIfInBounds_toArray, List.set_cons_zero, List.set_cons_succ, i64_w, i32_w]; rfl)
      refine take_ (i := 7) (N := some 77) (v := ?_) (a' := ?_) #[true, true, true, true, true, true, true, true, false, false, false, false, false, false, false] rfl rfl (by kernel_rfl) (fun _ _ _ h => h) (Or.inl ⟨by rfl, ?_⟩) hHeld ?_ ?_
      rotate_left
      · (intro w' s0; have x0 := (blk_cell (blk_below KTd.out s0) 11).trans (tc_live _); go_simp; first | done | with_reducible rfl | rfl | (simp [Instr.field, go_sem]; rfl))
      rotate_left
      · (simp only [Act.put, List.setIfInBounds_toArray, List.set_cons_zero, List.set_cons_succ, i64_w, i32_w]; rfl)
      refine pure_ (i := 8) (N := some 78) (v := ?_) (a' := ?_) #[true, true, true, true, true, true, true, true, true, false, false, false, false, false, false] rfl rfl (by kernel_rfl) (fun _ _ _ h => h) (Or.inl ⟨by rfl, ?_⟩) ?_ ?_
      rotate_left
      · (intro w'; go_simp; first | done | with_reducible rfl | rfl | (simp [Instr.field, go_sem]; rfl))
      rotate_left
      · (simp only [Act.put, List.setIfInBounds_toArray, List.set_cons_zero, List.set_cons_succ, i64_w, i32_w]; rfl)
      refine pure_ (i := 9) (N := some 79) (v := ?_) (a' := ?_) #[true, true, true, true, true, true, true, true, true, true, false, false, false, false, false] rfl rfl (by kernel_rfl) (fun _ _ _ h => h) (Or.inl ⟨by rfl, ?_⟩) ?_ ?_
      rotate_left
      · (intro w'; go_simp; first | done | with_reducible rfl | rfl | (simp [Instr.field, go_sem]; rfl))
      rotate_left
      · (simp only [Act.put, List.setIfInBounds_toArray, List.set_cons_zero, List.set_cons_succ, i64_w, i32_w]; rfl)
      refine pure_ (i := 10) (N := some 80) (v := ?_) (a' := ?_) #[true, true, true, true, true, true, true, true, true, true, true, false, false, false, false] rfl rfl (by kernel_rfl) (fun _ _ _ h => h) (Or.inl ⟨by rfl, ?_⟩) ?_ ?_
      rotate_left
      · (intro w'; go_simp; first | done | with_reducible rfl | rfl | (simp [Instr.field, go_sem]; rfl))
      rotate_left
      · (simp only [Act.put, List.setIfInBounds_toArray, List.set_cons_zero, List.set_cons_succ, i64_w, i32_w]; rfl)
      refine pure_ (i := 11) (N := some 81) (v := ?_) (a' := ?_) #[true, true, true, true, true, true, true, true, true, true, true, true, false, false, false] rfl rfl (by kernel_rfl) (fun _ _ _ h => h) (Or.inl ⟨by rfl, ?_⟩) ?_ ?_
      rotate_left
      · (intro w'; go_simp; first | done | with_reducible rfl | rfl | (simp [Instr.field, go_sem]; rfl))
      rotate_left
      · (simp only [Act.put, List.setIfInBounds_toArray, List.set_cons_zero, List.set_cons_succ, i64_w, i32_w]; rfl)
      refine take_ (i := 12) (N := some 82) (v := ?_) (a' := ?_) #[true, true, true, true, true, true, true, true, true, true, true, true, true, false, false] rfl rfl (by kernel_rfl) (fun _ _ _ h => h) (Or.inl ⟨by rfl, ?_⟩) hHeld ?_ ?_
      rotate_left
      · (intro w' s0; have x0 := (blk_cell (blk_below KTd.out s0) 206).trans (tc_far _); go_simp; first | done | with_reducible rfl | rfl | (simp [Instr.field, go_sem]; rfl))
      rotate_left
      · (simp only [Act.put, List.setIfInBounds_toArray, List.set_cons_zero, List.set_cons_succ, i64_w, i32_w]; rfl)
      refine pure_ (i := 13) (N := some 83) (v := ?_) (a' := ?_) #[true, true, true, true, true, true, true, true, true, true, true, true, true, true, false] rfl rfl (by kernel_rfl) (fun _ _ _ h => h) (Or.inl ⟨by rfl, ?_⟩) ?_ ?_
      rotate_left
      · (intro w'; go_simp; first | done | with_reducible rfl | rfl | (simp [Instr.field, go_sem]; rfl))
      rotate_left
      · (simp only [Act.put, List.setIfInBounds_toArray, List.set_cons_zero, List.set_cons_succ, i64_w, i32_w]; rfl)
      refine last_ (i := 14) (N := none) #[true, true, true, true, true, true, true, true, true, true, true, true, true, true, true] rfl rfl (by kernel_rfl) (by decide) (fun K hK => ?_)
      have fr := fun j => blk_frozen KCd.out j
      have c0 := (blk_cell KCd.out 0).trans rfl
      have c1 := (blk_cell KCd.out 1).trans rfl
      refine skip_ (w1 := ?_) (by rfl) rfl ?_ ?_
      rotate_left
      · (go_simp; rfl)
      refine hK _ _ ?_
      clear hK K
      refine done_ (by kernel_rfl) ?_
      have KS : Aside0 (((wa.setCell ⟨g8, 0, none⟩ (.int .u64 (Go.bits .and .u64 s.heard s.live))).setCell ⟨g8, 1, none⟩ (.int .u64 s.far)).heap[g8]? = some (.cells #[.int .u64 (Go.bits .and .u64 s.heard s.live), .int .u64 s.far] 52 (0, 0))) := ⟨blk_put (blk_set KCd.out 0 _) 1 _ rfl⟩
      have KTs := Aside0.mk (blk_far (p := ⟨g8, 1, none⟩) (blk_far (p := ⟨g8, 0, none⟩) KTd.out n8.out (.int .u64 (Go.bits .and .u64 s.heard s.live))) n8.out (.int .u64 s.far))
      have BS := Aside0.mk (below_set (j := 1) (v := .int .u64 s.far) (below_set (j := 0) (v := .int .u64 (Go.bits .and .u64 s.heard s.live)) BD.out L8.out) L8.out)
      clear fr c0 c1 KCd KTd BD hHeld
      generalize (wa.setCell ⟨g8, 0, none⟩ (.int .u64 (Go.bits .and .u64 s.heard s.live))).setCell ⟨g8, 1, none⟩ (.int .u64 s.far) = wb at KS KTs BS ⊢
      go_wp2
      refine start_ (n := 9) (S := fun w' => Below wb.drew.heap.size wb.drew w') (ds := []) #[false, false, false, false, false, false, false, false, false] (by kernel_rfl) rfl rfl (Below.refl _ _) (fun hHeld => ?_)
      have KCd := Aside0.mk (blk_drew KS.out)
      have KTd := Aside0.mk (blk_drew KTs.out)
      have BD := Aside0.mk (below_drew1 BS.out)
      clear KS KTs BS
      generalize wb.drew = wc at KCd KTd BD hHeld ⊢
      refine pure_ (i := 0) (N := some 84) (v := ?_) (a' := ?_) #[true, false, false, false, false, false, false, false, false] rfl rfl (by kernel_rfl) (fun _ _ _ h => h) (Or.inl ⟨by rfl, ?_⟩) ?_ ?_
      rotate_left
      · (intro w'; go_simp; first | done | with_reducible rfl | rfl | (simp [Instr.field, go_sem]; rfl))
      rotate_left
      · (simp only [Act.put, List.setIfInBounds_toArray, List.set_cons_zero, List.set_cons_succ, i64_w, i32_w]; rfl)
      refine take_ (i := 1) (N := some 85) (v := ?_) (a' := ?_) #[true, true, false, false, false, false, false, false, false] rfl rfl (by kernel_rfl) (fun _ _ _ h => h) (Or.inl ⟨by rfl, ?_⟩) hHeld ?_ ?_
      rotate_left
      · (intro w' s0; have x0 := (blk_cell (blk_below KCd.out s0) 0).trans rfl; go_simp; first | done | with_reducible rfl | rfl | (simp [Instr.field, go_sem]; rfl))
      rotate_left
      · (simp only [Act.put, List.setIfInBounds_toArray, List.set_cons_zero, List.set_cons_succ, i64_w, i32_w]; rfl)
      refine pure_ (i := 2) (N := some 86) (v := ?_) (a' := ?_) #[true, true, true, false, false, false, false, false, false] rfl rfl (by kernel_rfl) (fun _ _ _ h => h) (Or.inl ⟨by rfl, ?_⟩) ?_ ?_
      rotate_left
      · (intro w'; go_simp; first | done | with_reducible rfl | rfl | (simp [Instr.field, go_sem]; rfl))
      rotate_left
      · (simp only [Act.put, List.setIfInBounds_toArray, List.set_cons_zero, List.set_cons_succ, i64_w, i32_w]; rfl)
      refine pure_ (i := 3) (N := some 87) (v := ?_) (a' := ?_) #[true, true, true, true, false, false, false, false, false] rfl rfl (by kernel_rfl) (fun _ _ _ h => h) (Or.inl ⟨by rfl, ?_⟩) ?_ ?_
      rotate_left
      · (intro w'; go_simp; first | done | with_reducible rfl | rfl | (simp [Instr.field, go_sem]; rfl))
      rotate_left
      · (simp only [Act.put, List.setIfInBounds_toArray, List.set_cons_zero, List.set_cons_succ, i64_w, i32_w]; rfl)
      refine pure_ (i := 4) (N := some 88) (v := ?_) (a' := ?_) #[true, true, true, true, true, false, false, false, false] rfl rfl (by kernel_rfl) (fun _ _ _ h => h) (Or.inl ⟨by rfl, ?_⟩) ?_ ?_
      rotate_left
      · (intro w'; go_simp; first | done | with_reducible rfl | rfl | (simp [Instr.field, go_sem]; rfl))
      rotate_left
      · (simp only [Act.put, List.setIfInBounds_toArray, List.set_cons_zero, List.set_cons_succ, i64_w, i32_w]; rfl)
      refine pure_ (i := 5) (N := some 89) (v := ?_) (a' := ?_) #[true, true, true, true, true, true, false, false, false] rfl rfl (by kernel_rfl) (fun _ _ _ h => h) (Or.inl ⟨by rfl, ?_⟩) ?_ ?_
      rotate_left
      · (intro w'; go_simp; first | done | with_reducible rfl | rfl | (simp [Instr.field, go_sem]; rfl))
      rotate_left
      · (simp only [Act.put, List.setIfInBounds_toArray, List.set_cons_zero, List.set_cons_succ, i64_w, i32_w]; rfl)
      refine take_ (i := 6) (N := some 90) (v := ?_) (a' := ?_) #[true, true, true, true, true, true, true, false, false] rfl rfl (by kernel_rfl) (fun _ _ _ h => h) (Or.inl ⟨by rfl, ?_⟩) hHeld ?_ ?_
      rotate_left
      · (intro w' s0; have x0 := (blk_cell (blk_below KTd.out s0) 6).trans (tc_vm _); go_simp; first | done | with_reducible rfl | rfl | (simp [Instr.field, go_sem]; rfl))
      rotate_left
      · (simp only [Act.put, List.setIfInBounds_toArray, List.set_cons_zero, List.set_cons_succ, i64_w, i32_w]; rfl)
      refine one_ (i := 7) (N := some 91) #[true, true, true, true, true, true, true, true, false] rfl rfl (by kernel_rfl) (by decide) (fun K hK => ?_)
      refine goes_ Tryd.func34 (by kernel_rfl) rfl #[.int .u64 (Go.bits .and .u64 s.heard s.live), .int .u64 s.vm] (by rfl) rfl rfl (by (try simp only [List.map_toArray, List.map_cons, List.map_nil]); first | done | rfl) ?_
      refine (band_Major.calls (Go.bits .and .u64 s.heard s.live) s.vm true _ HM2.out).mono ?_
      rintro e wd2 ⟨rfl, hd⟩
      have hHe := below_step hHeld (Drawn0.below hd)
      clear hHeld hd
      refine ⟨_, rfl, ?_⟩
      refine hK _ _ hHe (fun hHeld => ?_)
      clear hK K hHe
      refine norm_ (a' := ?_) ?_ ?_
      rotate_left
      · (show Act.put _ (some 91) _ = _; simp only [Act.put, List.setIfInBounds_toArray, List.set_cons_zero, List.set_cons_succ, i64_w, i32_w]; rfl)
      refine pure_ (i := 8) (N := some 92) (v := .bool false) (a' := ?_) #[true, true, true, true, true, true, true, true, true] rfl rfl (by kernel_rfl) (fun _ _ _ h => h) (Or.inl ⟨by rfl, ?_⟩) ?_ ?_
      · (intro w'; go_simp; first | done | with_reducible rfl | rfl | (simp [Instr.field, go_sem]; rfl) | simp)
      rotate_left
      · (simp only [Act.put, List.setIfInBounds_toArray, List.set_cons_zero, List.set_cons_succ, i64_w, i32_w]; rfl)
      refine done_ (by kernel_rfl) ?_
      have KS := Aside0.mk (blk_below KCd.out hHeld)
      have KTs := Aside0.mk (blk_below KTd.out hHeld)
      have BS := Aside0.mk (below_step BD.out hHeld)
      clear KCd KTd BD hHeld
      rename World => wd3
      go_wp2
      refine start_ (n := 9) (S := fun w' => Below wd3.drew.heap.size wd3.drew w') (ds := [8]) #[false, false, false, false, false, false, false, false, false] (by kernel_rfl) rfl rfl (Below.refl _ _) (fun hHeld => ?_)
      have KCd := Aside0.mk (blk_drew KS.out)
      have KTd := Aside0.mk (blk_drew KTs.out)
      have BD := Aside0.mk (below_drew1 BS.out)
      clear KS KTs BS
      generalize wd3.drew = we at KCd KTd BD hHeld ⊢
      refine pure_ (i := 0) (N := some 93) (v := ?_) (a' := ?_) #[true, false, false, false, false, false, false, false, false] rfl rfl (by kernel_rfl) (fun _ _ _ h => h) (Or.inl ⟨by rfl, ?_⟩) ?_ ?_
      rotate_left
      · (intro w'; go_simp; first | done | with_reducible rfl | rfl | (simp [Instr.field, go_sem]; rfl))
      rotate_left
      · (simp only [Act.put, List.setIfInBounds_toArray, List.set_cons_zero, List.set_cons_succ, i64_w, i32_w]; rfl)
      refine take_ (i := 1) (N := some 94) (v := ?_) (a' := ?_) #[true, true, false, false, false, false, false, false, false] rfl rfl (by kernel_rfl) (fun _ _ _ h => h) (Or.inl ⟨by rfl, ?_⟩) hHeld ?_ ?_
      rotate_left
      · (intro w' s0; have x0 := (blk_cell (blk_below KCd.out s0) 0).trans rfl; go_simp; first | done | with_reducible rfl | rfl | (simp [Instr.field, go_sem]; rfl))
      rotate_left
      · (simp only [Act.put, List.setIfInBounds_toArray, List.set_cons_zero, List.set_cons_succ, i64_w, i32_w]; rfl)
      refine pure_ (i := 2) (N := some 95) (v := ?_) (a' := ?_) #[true, true, true, false, false, false, false, false, false] rfl rfl (by kernel_rfl) (fun _ _ _ h => h) (Or.inl ⟨by rfl, ?_⟩) ?_ ?_
      rotate_left
      · (intro w'; go_simp; first | done | with_reducible rfl | rfl | (simp [Instr.field, go_sem]; rfl))
      rotate_left
      · (simp only [Act.put, List.setIfInBounds_toArray, List.set_cons_zero, List.set_cons_succ, i64_w, i32_w]; rfl)
      refine pure_ (i := 3) (N := some 96) (v := ?_) (a' := ?_) #[true, true, true, true, false, false, false, false, false] rfl rfl (by kernel_rfl) (fun _ _ _ h => h) (Or.inl ⟨by rfl, ?_⟩) ?_ ?_
      rotate_left
      · (intro w'; go_simp; first | done | with_reducible rfl | rfl | (simp [Instr.field, go_sem]; rfl))
      rotate_left
      · (simp only [Act.put, List.setIfInBounds_toArray, List.set_cons_zero, List.set_cons_succ, i64_w, i32_w]; rfl)
      refine pure_ (i := 4) (N := some 97) (v := ?_) (a' := ?_) #[true, true, true, true, true, false, false, false, false] rfl rfl (by kernel_rfl) (fun _ _ _ h => h) (Or.inl ⟨by rfl, ?_⟩) ?_ ?_
      rotate_left
      · (intro w'; go_simp; first | done | with_reducible rfl | rfl | (simp [Instr.field, go_sem]; rfl))
      rotate_left
      · (simp only [Act.put, List.setIfInBounds_toArray, List.set_cons_zero, List.set_cons_succ, i64_w, i32_w]; rfl)
      refine take_ (i := 5) (N := some 98) (v := ?_) (a' := ?_) #[true, true, true, true, true, true, false, false, false] rfl rfl (by kernel_rfl) (fun _ _ _ h => h) (Or.inl ⟨by rfl, ?_⟩) hHeld ?_ ?_
      rotate_left
      · (intro w' s0; have x0 := (blk_cell (blk_below KTd.out s0) 12).trans (tc_joins _); go_simp; first | done | with_reducible rfl | rfl | (simp [Instr.field, go_sem]; rfl))
      rotate_left
      · (simp only [Act.put, List.setIfInBounds_toArray, List.set_cons_zero, List.set_cons_succ, i64_w, i32_w]; rfl)
      refine pure_ (i := 6) (N := some 99) (v := ?_) (a' := ?_) #[true, true, true, true, true, true, true, false, false] rfl rfl (by kernel_rfl) (fun _ _ _ h => h) (Or.inl ⟨by rfl, ?_⟩) ?_ ?_
      rotate_left
      · (intro w'; go_simp; first | done | with_reducible rfl | rfl | (simp [Instr.field, go_sem]; rfl))
      rotate_left
      · (simp only [Act.put, List.setIfInBounds_toArray, List.set_cons_zero, List.set_cons_succ, i64_w, i32_w]; rfl)
      refine pure_ (i := 7) (N := some 100) (v := ?_) (a' := ?_) #[true, true, true, true, true, true, true, true, false] rfl rfl (by kernel_rfl) (fun _ _ _ h => h) (Or.inl ⟨by rfl, ?_⟩) ?_ ?_
      rotate_left
      · (intro w'; go_simp; first | done | with_reducible rfl | rfl | (simp [Instr.field, go_sem]; rfl))
      rotate_left
      · (simp only [Act.put, List.setIfInBounds_toArray, List.set_cons_zero, List.set_cons_succ, i64_w, i32_w]; rfl)
      refine last_ (i := 8) (N := none) #[true, true, true, true, true, true, true, true, true] rfl rfl (by kernel_rfl) (by decide) (fun K hK => ?_)
      have fr := fun j => blk_frozen KCd.out j
      have c0 := (blk_cell KCd.out 0).trans rfl
      refine skip_ (w1 := ?_) (by rfl) rfl ?_ ?_
      rotate_left
      · (go_simp; rfl)
      refine hK _ _ ?_
      clear hK K
      refine done_ (by kernel_rfl) ?_
      obtain ⟨mm, hmm⟩ : ∃ m, m = Go.bits .or .u64 (Go.bits .and .u64 s.heard s.live) s.joins := ⟨_, rfl⟩
      have KS : Aside0 ((we.setCell ⟨g8, 0, none⟩ (.int .u64 (Go.bits .or .u64 (Go.bits .and .u64 s.heard s.live) s.joins))).heap[g8]? = some (.cells #[.int .u64 (Go.bits .or .u64 (Go.bits .and .u64 s.heard s.live) s.joins), .int .u64 s.far] 52 (0, 0))) := ⟨blk_put KCd.out 0 _ rfl⟩
      have KTs := Aside0.mk (blk_far (p := ⟨g8, 0, none⟩) KTd.out n8.out (.int .u64 (Go.bits .or .u64 (Go.bits .and .u64 s.heard s.live) s.joins)))
      have BS := Aside0.mk (below_set (j := 0) (v := .int .u64 (Go.bits .or .u64 (Go.bits .and .u64 s.heard s.live) s.joins)) BD.out L8.out)
      clear fr c0 KCd KTd BD hHeld
      generalize we.setCell ⟨g8, 0, none⟩ (.int .u64 (Go.bits .or .u64 (Go.bits .and .u64 s.heard s.live) s.joins)) = wf at KS KTs BS ⊢
      go_wp2
      refine start_ (n := 9) (S := fun w' => w'.heap[g8]? = some (.cells #[.int .u64 (Go.bits .or .u64 (Go.bits .and .u64 s.heard s.live) s.joins), .int .u64 s.far] 52 (0, 0))) (ds := [8]) #[false, false, false, false, false, false, false, false, false] (by kernel_rfl) rfl rfl (blk_drew KS.out) (fun hHeld => ?_)
      have KCd := Aside0.mk hHeld
      have KTd := Aside0.mk (blk_drew KTs.out)
      have BD := Aside0.mk (keep_drew (KeepBut.of_below BS.out g none))
      clear KS KTs BS
      generalize wf.drew = wg at KCd KTd BD hHeld ⊢
      refine pure_ (i := 0) (N := some 101) (v := ?_) (a' := ?_) #[true, false, false, false, false, false, false, false, false] rfl rfl (by kernel_rfl) (fun _ _ _ h => h) (Or.inl ⟨by rfl, ?_⟩) ?_ ?_
      rotate_left
      · (intro w'; go_simp; first | done | with_reducible rfl | rfl | (simp [Instr.field, go_sem]; rfl))
      rotate_left
      · (simp only [Act.put, List.setIfInBounds_toArray, List.set_cons_zero, List.set_cons_succ, i64_w, i32_w]; rfl)
      refine pure_ (i := 1) (N := some 102) (v := ?_) (a' := ?_) #[true, true, false, false, false, false, false, false, false] rfl rfl (by kernel_rfl) (fun _ _ _ h => h) (Or.inl ⟨by rfl, ?_⟩) ?_ ?_
      rotate_left
      · (intro w'; go_simp; first | done | with_reducible rfl | rfl | (simp [Instr.field, go_sem]; rfl))
      rotate_left
      · (simp only [Act.put, List.setIfInBounds_toArray, List.set_cons_zero, List.set_cons_succ, i64_w, i32_w]; rfl)
      refine pure_ (i := 3) (N := some 104) (v := ?_) (a' := ?_) #[true, true, false, true, false, false, false, false, false] rfl rfl (by kernel_rfl) (fun _ _ _ h => h) (Or.inl ⟨by rfl, ?_⟩) ?_ ?_
      rotate_left
      · (intro w'; go_simp; first | done | with_reducible rfl | rfl | (simp [Instr.field, go_sem]; rfl))
      rotate_left
      · (simp only [Act.put, List.setIfInBounds_toArray, List.set_cons_zero, List.set_cons_succ, i64_w, i32_w]; rfl)
      refine take_ (i := 2) (N := some 103) (v := ?_) (a' := ?_) #[true, true, true, true, false, false, false, false, false] rfl rfl (by kernel_rfl) (fun _ _ _ h => h) (Or.inl ⟨by rfl, ?_⟩) hHeld ?_ ?_
      rotate_left
      · (intro w' s0; have x0 := (blk_cell s0 0).trans rfl; have x1 := (blk_cell s0 1).trans rfl; go_simp; first | done | with_reducible rfl | rfl | (simp [Instr.field, go_sem]; rfl))
      rotate_left
      · (simp only [Act.put, List.setIfInBounds_toArray, List.set_cons_zero, List.set_cons_succ, i64_w, i32_w]; rfl)
      refine pure_ (i := 4) (N := some 105) (v := ?_) (a' := ?_) #[true, true, true, true, true, false, false, false, false] rfl rfl (by kernel_rfl) (fun _ _ _ h => h) (Or.inl ⟨by rfl, ?_⟩) ?_ ?_
      rotate_left
      · (intro w'; go_simp; first | done | with_reducible rfl | rfl | (simp [Instr.field, go_sem]; rfl))
      rotate_left
      · (simp only [Act.put, List.setIfInBounds_toArray, List.set_cons_zero, List.set_cons_succ, i64_w, i32_w]; rfl)
      refine one_ (i := 5) (N := none) #[true, true, true, true, true, true, false, false, false] rfl rfl (by kernel_rfl) (by decide) (fun K hK => ?_)
      have fr := fun j => blk_frozen KTd.out j
      have c0 := (blk_cell KTd.out 207).trans (tc_asked s)
      refine skip_ (w1 := ?_) (by rfl) rfl ?_ ?_
      rotate_left
      · (go_simp; rfl)
      refine hK _ _ (blk_far (p := ⟨g, 207, none⟩) KCd.out n8.out.symm _) (fun hHeld => ?_)
      clear hK K
      clear fr c0
      have KTe := Aside0.mk (blk_put KTd.out 207 (.bool true) (st_asked s true))
      replace BD := Aside0.mk (BD.out.set_ 207 (.bool true))
      replace KCd := Aside0.mk hHeld
      clear KTd
      generalize wg.setCell ⟨g, 207, none⟩ (.bool true) = wh at KTe BD KCd hHeld ⊢
      refine pure_ (i := 6) (N := some 106) (v := ?_) (a' := ?_) #[true, true, true, true, true, true, true, false, false] rfl rfl (by kernel_rfl) (fun _ _ _ h => h) (Or.inl ⟨by rfl, ?_⟩) ?_ ?_
      rotate_left
      · (intro w'; go_simp; first | done | with_reducible rfl | rfl | (simp [Instr.field, go_sem]; rfl))
      rotate_left
      · (simp only [Act.put, List.setIfInBounds_toArray, List.set_cons_zero, List.set_cons_succ, i64_w, i32_w]; rfl)
      refine pure_ (i := 7) (N := some 107) (v := ?_) (a' := ?_) #[true, true, true, true, true, true, true, true, false] rfl rfl (by kernel_rfl) (fun _ _ _ h => h) (Or.inl ⟨by rfl, ?_⟩) ?_ ?_
      rotate_left
      · (intro w'; go_simp; first | done | with_reducible rfl | rfl | (simp [Instr.field, go_sem]; rfl))
      rotate_left
      · (simp only [Act.put, List.setIfInBounds_toArray, List.set_cons_zero, List.set_cons_succ, i64_w, i32_w]; rfl)
      refine last_ (i := 8) (N := none) #[true, true, true, true, true, true, true, true, true] rfl rfl (by kernel_rfl) (by decide) (fun K hK => ?_)
      have fr := fun j => blk_frozen KTe.out j
      have c0 := (blk_cell KTe.out 208).trans (tc_wm _)
      have c1 := (blk_cell KTe.out 209).trans (tc_wc _)
      refine skip_ (w1 := ?_) (by rfl) rfl ?_ ?_
      rotate_left
      · (go_simp; rfl)
      refine hK _ _ ?_
      clear hK K
      refine done_ (by kernel_rfl) ?_
      have KU : Aside0 (((wh.setCell ⟨g, 208, none⟩ (.int .u64 (Go.bits .or .u64 (Go.bits .and .u64 s.heard s.live) s.joins))).setCell ⟨g, 209, none⟩ (.int .u64 s.far)).heap[g]? = some (.cells (tc { s with asked := true, wm := Go.bits .or .u64 (Go.bits .and .u64 s.heard s.live) s.joins, wc := s.far }) 81 (0, 0))) := ⟨blk_put (blk_put KTe.out 208 _ (st_wm _ _)) 209 _ (st_wc _ _)⟩
      have KK := Aside0.mk ((BD.out.set_ 208 (.int .u64 (Go.bits .or .u64 (Go.bits .and .u64 s.heard s.live) s.joins))).set_ 209 (.int .u64 s.far))
      clear fr c0 c1 KTe BD KCd hmm
      generalize (wh.setCell ⟨g, 208, none⟩ (.int .u64 (Go.bits .or .u64 (Go.bits .and .u64 s.heard s.live) s.joins))).setCell ⟨g, 209, none⟩ (.int .u64 s.far) = wi at KU KK ⊢
      go_wp2_with (first
        | (go_at_call 43; refine (acceptL _ g { s with asked := true, wm := Go.bits .or .u64 (Go.bits .and .u64 s.heard s.live) s.joins, wc := s.far } KU.out).mono ?_; rintro e wj ⟨rfl, hb⟩; replace KU := Aside0.mk (blk_below KU.out hb); replace KK := Aside0.mk (KK.out.trans (KeepBut.of_below hb g none) (.inl rfl)); clear hb)
        | (go_at_call 39; refine (tell_me _ g { s with asked := true, wm := Go.bits .or .u64 (Go.bits .and .u64 s.heard s.live) s.joins, wc := s.far } 6 0 0 0 0 0 s.wb 0 0 (Go.bits .or .u64 (Go.bits .and .u64 s.heard s.live) s.joins) s.far S l1 xs KU.out (tab_keep HTab.out KT0.out KK.out) HMe.out HVm.out HLe1.out HLi1.out HN.out HH.out).mono ?_; rintro e wk ⟨v, rfl, hq⟩; have HQ := Aside0.mk (rq_from KK.out hq); clear hq))
      go_ret2
      exact ⟨v, rfl, HQ.out⟩
end Go.Proofs.YtkjjegakfceibaaDoor.B
