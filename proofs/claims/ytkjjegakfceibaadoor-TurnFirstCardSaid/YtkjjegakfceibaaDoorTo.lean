/- By hand: letters as a kind; (*Turn).to (printed by to.py). -/
import Derived.Test.YtkjjegakfceibaaDoorHear
namespace Go.Proofs.YtkjjegakfceibaaDoor.B
open Go.RowKit Go.Proofs.YtkjjegakfceibaaDoorW.PrintWords Go.Proofs.YtkjjegakfceibaaDoorW.PrintLast Go.Proofs.YtkjjegakfceibaaDoorW.PrintMore
set_option linter.unusedSimpArgs false
set_option linter.unusedVariables false
/-- a kind of plain cells -/
def rowKd {α : Type} (n : Nat) (enc : α → List Value) (hl : ∀ x, (enc x).length = n) (h1 : ∀ x, ∀ u ∈ enc x, u.oneCell' = true) : Kd α where
  sz := n
  E := []
  K := fun _ x cs => cs = enc x
  M := fun _ _ _ x cs => cs = enc x
  K_len := fun h => by rw [h]; exact hl _
  K_one := fun h u hu => by rw [h] at hu; exact h1 _ u hu
  K_below := fun _ h => h
  K_of_M := fun h => h
  M_mono := fun _ h => h
  M_bound := fun h => h
  M_move := fun _ h => h
  M_lower := fun _ h => h
structure LT where
  k : Int
  f : Int
  t : Int
  sq : Int
  vi : Int
  vm : Int
  b : Int
  od : Int
  ni : Int
  nm : Int
  cut : Int
def LT.cells (x : LT) : List Value := [.int .i64 x.k, .int .i64 x.f, .int .i64 x.t, .int .u64 x.sq, .int .i64 0, .slice none 0 0, .int .u64 x.vi, .int .u64 x.vm, .int .u64 x.b, .int .u64 x.od, .int .u64 x.ni, .int .u64 x.nm, .int .u64 x.cut, .slice none 0 0, .slice none 0 0, .float .f64 0]
theorem LT.one (x : LT) : ∀ u ∈ x.cells, u.oneCell' = true := by
  have h : x.cells.all (·.oneCell') = true := by kernel_rfl
  exact fun u hu => List.all_eq_true.1 h u hu
def kL : Kd LT := rowKd 16 LT.cells (fun _ => rfl) LT.one
theorem info40 : (Tryd.prog.info? 40).map (fun i => (i.zero, i.size, i.bytes)) = some (some (.agg #[.int .i64 0, .int .i64 0, .int .i64 0, .int .u64 0, .int .i64 0, .slice none 0 0, .int .u64 0, .int .u64 0, .int .u64 0, .int .u64 0, .int .u64 0, .int .u64 0, .int .u64 0, .slice none 0 0, .slice none 0 0, .float .f64 0]), 16, 176) := by kernel_rfl
theorem tab_keep {w W : World} {g : Nat} {s : TS} (h : TabT w) (hT : TB w g s) (hk : KeepBut w W g none) : TabT W := fun j hj => by
  have h0 := h j hj
  have hlt : 1 < w.heap.size := tab_pos h
  have hne : (1 : Nat) ≠ g := by
    intro e
    have h1 := h 0 (by decide)
    have hT' : w.heap[g]? = some (.cells (tc s) 81 (0, 0)) := hT
    rw [e] at h1
    rw [(blk_cell hT' 0).trans (tc_top s)] at h1
    simp at h1
  have hb := hk.2.1 1 hlt hne (by simp)
  rw [← h0]
  unfold World.cell?
  rw [hb]
theorem blk_belowN {w w1 : World} {g n : Nat} {o : Obj} (h : w.heap[g]? = some o) (hg : g < n) (hb : Below n w w1) : w1.heap[g]? = some o := (hb.block g hg).trans h
theorem slice_raw {ops : Array Oper} {rest : List Oper} {o : Oper} {a : Act} {W : World} {Q : Exit → Act → World → Prop} (hgd : o.guard = none) {x : Operand} (ho : o.op = .buildSlice 31 1 #[(0, x)]) (p : LT) (hx : a.eval x = .agg p.cells.toArray)
    (h : wpList Tryd.prog ops Q rest (a.put o.dst (.slice (some ⟨W.heap.size, 0, none⟩) 1 1)) (W.alloc (.cells p.cells.toArray 40 (0, 0)))) : wpList Tryd.prog ops Q (o :: rest) a W := by
  refine Kd.event_run hgd ?_ h
  unfold execOp
  have e : Array.map (fun q : Nat × Operand => (q.1, a.eval q.2)) #[(0, x)] = #[(0, .agg p.cells.toArray)] := by simp [hx]
  have hr := slice_run p.k p.f p.t p.sq p.vi p.vm p.b p.od p.ni p.nm p.cut W
  simp only [ho, e, Sem.run_bind, Sem.run_pure]
  rw [show (Instr.buildSlice 31 1 #[(0, .agg p.cells.toArray)]).run Tryd.prog W = _ from hr]
  rfl
set_option maxRecDepth 100000 in
set_option maxHeartbeats 4000000 in
theorem to_at (w : World) (g : Nat) (s : TS) (k f t sq vi vm b od ni nm cut : Int) (ofs lv : Int) (xs : List Int) (hT : TB w g s) (hTab : TabT w) (hle : band_Less.f ofs s.me = some lv) (hli : band_List.f lv = some xs) (hlen : xs.length ≤ 64) :
    Calls Tryd.prog 42 #[.pointer (some ⟨g, 0, none⟩), .agg #[.int .i64 k, .int .i64 f, .int .i64 t, .int .u64 sq, .int .i64 0, .slice none 0 0, .int .u64 vi, .int .u64 vm, .int .u64 b, .int .u64 od, .int .u64 ni, .int .u64 nm, .int .u64 cut, .slice none 0 0, .slice none 0 0, .float .f64 0], .int .u64 ofs] w fun e w' => ∃ v, e = .returned v ∧ kL.R 40 w' w.heap.size (fun _ => True) v (xs.map (fun n => (⟨k, s.me, n, sq, s.vi, s.vm, b, od, ni, nm, cut⟩ : LT))) ∧ (xs = [] → v = .slice none 0 0) ∧ Below w.heap.size w w' := by
  have KT := Aside0.mk hT
  clear hT
  have HLe := Aside0.mk hle
  have HLi := Aside0.mk hli
  have HN := Aside0.mk hlen
  have HTab := Aside0.mk hTab
  have si40 := si40
  have hln : (xs.length : Int) ≤ 9223372036854775807 := by omega
  clear hle hli hlen hTab
  go_enter Tryd.func42, Tryd.ntmps42
  go_wp2_with ((with_reducible refine gate_dst (N := 4) rfl ?_); refine box_event ?hg (N := 4) ?hd (cs := #[.int .i64 k, .int .i64 f, .int .i64 t, .int .u64 sq, .int .i64 0, .slice none 0 0, .int .u64 vi, .int .u64 vm, .int .u64 b, .int .u64 od, .int .u64 ni, .int .u64 nm, .int .u64 cut, .slice none 0 0, .slice none 0 0, .float .f64 0]) (t := 40) ?hr ?_; (case hd => rfl); (case hg => rfl); (case hr => first | (go_simp; done) | (go_simp; rfl)); intro g1 hg_ w1 hb_ hB_; have G1 := Aside0.mk hg_; have KL := Aside0.mk hb_; have B1 := Aside0.mk hB_; replace KT := Aside0.mk (blk_below KT.out hB_); clear hg_ hb_ hB_)
  have L1 : Aside0 (w.heap.size ≤ g1) := ⟨Nat.le_of_eq G1.out.symm⟩
  have ng : Aside0 (g ≠ g1) := ⟨blk_ne KT.out KL.out (by decide)⟩
  refine start_ (n := 12) (S := fun w' => w'.heap[g]? = some (.cells (tc s) 81 (0, 0)) ∧ Below w.heap.size w w') (ds := []) #[false, false, false, false, false, false, false, false, false, false, false, false] (by kernel_rfl) rfl rfl ⟨blk_drew KT.out, below_drew1 B1.out⟩ (fun hHeld => ?_)
  have KLd := Aside0.mk (blk_drew KL.out)
  have KTd := Aside0.mk hHeld.1
  have BD := Aside0.mk hHeld.2
  generalize w1.drew = wd at KTd KLd BD hHeld ⊢
  refine pure_ (i := 0) (N := some 9) (v := ?_) (a' := ?_) #[true, false, false, false, false, false, false, false, false, false, false, false] rfl rfl (by kernel_rfl) (fun _ _ _ h => h) (Or.inl ⟨by rfl, ?_⟩) ?_ ?_
  rotate_left
  · (intro w'; go_simp; first | done | with_reducible rfl | rfl | (simp [Instr.field, go_sem]; rfl))
  rotate_left
  · (simp only [Act.put, List.setIfInBounds_toArray, List.set_cons_zero, List.set_cons_succ, i64_w, i32_w]; rfl)
  refine pure_ (i := 1) (N := some 10) (v := ?_) (a' := ?_) #[true, true, false, false, false, false, false, false, false, false, false, false] rfl rfl (by kernel_rfl) (fun _ _ _ h => h) (Or.inl ⟨by rfl, ?_⟩) ?_ ?_
  rotate_left
  · (intro w'; go_simp; first | done | with_reducible rfl | rfl | (simp [Instr.field, go_sem]; rfl))
  rotate_left
  · (simp only [Act.put, List.setIfInBounds_toArray, List.set_cons_zero, List.set_cons_succ, i64_w, i32_w]; rfl)
  refine pure_ (i := 2) (N := some 11) (v := ?_) (a' := ?_) #[true, true, true, false, false, false, false, false, false, false, false, false] rfl rfl (by kernel_rfl) (fun _ _ _ h => h) (Or.inl ⟨by rfl, ?_⟩) ?_ ?_
  rotate_left
  · (intro w'; go_simp; first | done | with_reducible rfl | rfl | (simp [Instr.field, go_sem]; rfl))
  rotate_left
  · (simp only [Act.put, List.setIfInBounds_toArray, List.set_cons_zero, List.set_cons_succ, i64_w, i32_w]; rfl)
  refine pure_ (i := 4) (N := some 13) (v := ?_) (a' := ?_) #[true, true, true, false, true, false, false, false, false, false, false, false] rfl rfl (by kernel_rfl) (fun _ _ _ h => h) (Or.inl ⟨by rfl, ?_⟩) ?_ ?_
  rotate_left
  · (intro w'; go_simp; first | done | with_reducible rfl | rfl | (simp [Instr.field, go_sem]; rfl))
  rotate_left
  · (simp only [Act.put, List.setIfInBounds_toArray, List.set_cons_zero, List.set_cons_succ, i64_w, i32_w]; rfl)
  refine pure_ (i := 5) (N := some 14) (v := ?_) (a' := ?_) #[true, true, true, false, true, true, false, false, false, false, false, false] rfl rfl (by kernel_rfl) (fun _ _ _ h => h) (Or.inl ⟨by rfl, ?_⟩) ?_ ?_
  rotate_left
  · (intro w'; go_simp; first | done | with_reducible rfl | rfl | (simp [Instr.field, go_sem]; rfl))
  rotate_left
  · (simp only [Act.put, List.setIfInBounds_toArray, List.set_cons_zero, List.set_cons_succ, i64_w, i32_w]; rfl)
  refine pure_ (i := 6) (N := some 15) (v := ?_) (a' := ?_) #[true, true, true, false, true, true, true, false, false, false, false, false] rfl rfl (by kernel_rfl) (fun _ _ _ h => h) (Or.inl ⟨by rfl, ?_⟩) ?_ ?_
  rotate_left
  · (intro w'; go_simp; first | done | with_reducible rfl | rfl | (simp [Instr.field, go_sem]; rfl))
  rotate_left
  · (simp only [Act.put, List.setIfInBounds_toArray, List.set_cons_zero, List.set_cons_succ, i64_w, i32_w]; rfl)
  refine take_ (i := 3) (N := some 12) (v := ?_) (a' := ?_) #[true, true, true, true, true, true, true, false, false, false, false, false] rfl rfl (by kernel_rfl) (fun _ _ _ h => h) (Or.inl ⟨by rfl, ?_⟩) hHeld ?_ ?_
  rotate_left
  · (intro w' s0; have x0 := (blk_cell s0.1 4).trans (tc_me _); go_simp; first | done | with_reducible rfl | rfl | (simp [Instr.field, go_sem]; rfl))
  rotate_left
  · (simp only [Act.put, List.setIfInBounds_toArray, List.set_cons_zero, List.set_cons_succ, i64_w, i32_w]; rfl)
  refine take_ (i := 7) (N := some 16) (v := ?_) (a' := ?_) #[true, true, true, true, true, true, true, true, false, false, false, false] rfl rfl (by kernel_rfl) (fun _ _ _ h => h) (Or.inl ⟨by rfl, ?_⟩) hHeld ?_ ?_
  rotate_left
  · (intro w' s0; have x0 := (blk_cell s0.1 5).trans (tc_vi _); have x1 := (blk_cell s0.1 6).trans (tc_vm _); go_simp; first | done | with_reducible rfl | rfl | (simp [Instr.field, go_sem]; rfl))
  rotate_left
  · (simp only [Act.put, List.setIfInBounds_toArray, List.set_cons_zero, List.set_cons_succ, i64_w, i32_w]; rfl)
  refine pure_ (i := 8) (N := some 17) (v := ?_) (a' := ?_) #[true, true, true, true, true, true, true, true, true, false, false, false] rfl rfl (by kernel_rfl) (fun _ _ _ h => h) (Or.inl ⟨by rfl, ?_⟩) ?_ ?_
  rotate_left
  · (intro w'; go_simp; first | done | with_reducible rfl | rfl | (simp [Instr.field, go_sem]; rfl))
  rotate_left
  · (simp only [Act.put, List.setIfInBounds_toArray, List.set_cons_zero, List.set_cons_succ, i64_w, i32_w]; rfl)
  refine one_ (i := 9) (N := none) #[true, true, true, true, true, true, true, true, true, true, false, false] rfl rfl (by kernel_rfl) (by decide) (fun K hK => ?_)
  have fr := fun j => blk_frozen KLd.out j
  have c1 := (blk_cell KLd.out 1).trans rfl
  refine skip_ (w1 := ?_) (by rfl) rfl ?_ ?_
  rotate_left
  · (go_simp; rfl)
  refine hK _ _ ⟨blk_far KTd.out (p := ⟨g1, 1, none⟩) ng.out _, below_set BD.out L1.out⟩ (fun hHeld => ?_)
  clear hK K
  clear fr c1
  have KLe : Aside0 ((wd.setCell ⟨g1, 1, none⟩ (.int .i64 s.me)).heap[g1]? = some (.cells #[.int .i64 k, .int .i64 s.me, .int .i64 t, .int .u64 sq, .int .i64 0, .slice none 0 0, .int .u64 vi, .int .u64 vm, .int .u64 b, .int .u64 od, .int .u64 ni, .int .u64 nm, .int .u64 cut, .slice none 0 0, .slice none 0 0, .float .f64 0] 40 (0, 0))) := ⟨(blk_put KLd.out 1 _ rfl)⟩
  replace KTd := Aside0.mk hHeld.1
  replace BD := Aside0.mk hHeld.2
  clear KLd
  generalize (wd.setCell ⟨g1, 1, none⟩ (.int .i64 s.me)) = we at KLe KTd BD hHeld ⊢
  have KLd := KLe
  clear KLe
  refine pure_ (i := 10) (N := some 18) (v := ?_) (a' := ?_) #[true, true, true, true, true, true, true, true, true, true, true, false] rfl rfl (by kernel_rfl) (fun _ _ _ h => h) (Or.inl ⟨by rfl, ?_⟩) ?_ ?_
  rotate_left
  · (intro w'; go_simp; first | done | with_reducible rfl | rfl | (simp [Instr.field, go_sem]; rfl))
  rotate_left
  · (simp only [Act.put, List.setIfInBounds_toArray, List.set_cons_zero, List.set_cons_succ, i64_w, i32_w]; rfl)
  refine one_ (i := 11) (N := none) #[true, true, true, true, true, true, true, true, true, true, true, true] rfl rfl (by kernel_rfl) (by decide) (fun K hK => ?_)
  have fr := fun j => blk_frozen KLd.out j
  have c6 := (blk_cell KLd.out 6).trans rfl
  have c7 := (blk_cell KLd.out 7).trans rfl
  refine skip_ (w1 := ?_) (by rfl) rfl ?_ ?_
  rotate_left
  · (go_simp; rfl)
  refine hK _ _ ⟨blk_far (blk_far KTd.out (p := ⟨g1, 6, none⟩) ng.out _) (p := ⟨g1, 7, none⟩) ng.out _, below_set (below_set BD.out L1.out) L1.out⟩ (fun hHeld => ?_)
  clear hK K
  clear fr c6 c7
  have KLe : Aside0 (((we.setCell ⟨g1, 6, none⟩ (.int .u64 s.vi)).setCell ⟨g1, 7, none⟩ (.int .u64 s.vm)).heap[g1]? = some (.cells #[.int .i64 k, .int .i64 s.me, .int .i64 t, .int .u64 sq, .int .i64 0, .slice none 0 0, .int .u64 s.vi, .int .u64 s.vm, .int .u64 b, .int .u64 od, .int .u64 ni, .int .u64 nm, .int .u64 cut, .slice none 0 0, .slice none 0 0, .float .f64 0] 40 (0, 0))) := ⟨(blk_put (blk_set KLd.out 6 _) 7 _ rfl)⟩
  replace KTd := Aside0.mk hHeld.1
  replace BD := Aside0.mk hHeld.2
  clear KLd
  generalize ((we.setCell ⟨g1, 6, none⟩ (.int .u64 s.vi)).setCell ⟨g1, 7, none⟩ (.int .u64 s.vm)) = wf at KLe KTd BD hHeld ⊢
  have KLd := KLe
  clear KLe
  refine done_ (by kernel_rfl) ?_
  clear hHeld
  have xme := (blk_cell KTd.out 4).trans (tc_me s)
  go_wp2_with (first
    | (go_at_call 68; refine (band_Less.calls ofs s.me lv _ HLe.out).mono ?_; rintro e w2 ⟨rfl, hd⟩; replace KTd := Aside0.mk (blk_below KTd.out (Drawn0.below hd)); replace KLd := Aside0.mk (blk_below KLd.out (Drawn0.below hd)); replace BD := Aside0.mk (below_step BD.out (Drawn0.below hd)); clear hd)
    | (go_at_call 44; refine (band_List.calls lv xs _ HLi.out ⟨tab_belowN HTab.out (tab_pos HTab.out) BD.out⟩).mono ?_; rintro e w3 ⟨v0, rfl, hr, hb⟩; obtain ⟨A, c, rfl⟩ := Kd.R_slice hr; have HI := Aside0.mk (Kd.R_bound hr); have HC0 := Aside0.mk (Kd.R_reads' hr); replace KTd := Aside0.mk (blk_below KTd.out hb); have lt1 := Aside0.mk (blk_lt KLd.out); replace KLd := Aside0.mk (blk_below KLd.out hb); replace BD := Aside0.mk (below_step BD.out hb); clear hr hb))
  have HCK : Aside0 (∀ W', KeepBut w3 W' g1 none → Kd.C (Kd.int .i64) W' A xs.length xs) := ⟨fun W' hq => Kd.C_foot_own HI.out (fun k hk => by have := hk.2.1; have := lt1.out; omega) W' hq.k⟩
  have LW := Aside0.mk BD.out.size
  have lt3 := Aside0.mk (blk_lt KLd.out)
  have ht0 : KeepBut w3 w3 g1 none := KeepBut.refl _ _ _
  go_loopw [6, 27] (fun v i wr => ∃ (j : Nat) (tv : Int), i = .int .i64 j ∧ Aside0 (j = 0 → v = .slice none 0 0) ∧ Aside0 (j ≤ xs.length) ∧ Aside0 (wr.heap[g1]? = some (.cells #[.int .i64 k, .int .i64 s.me, .int .i64 tv, .int .u64 sq, .int .i64 0, .slice none 0 0, .int .u64 s.vi, .int .u64 s.vm, .int .u64 b, .int .u64 od, .int .u64 ni, .int .u64 nm, .int .u64 cut, .slice none 0 0, .slice none 0 0, .float .f64 0] 40 (0, 0))) ∧ Aside0 (kL.R 40 wr w3.heap.size (fun _ => True) v ((xs.take j).map (fun n => (⟨k, s.me, n, sq, s.vi, s.vm, b, od, ni, nm, cut⟩ : LT)))) ∧ Aside0 (Below w.heap.size w wr) ∧ Aside0 (KeepBut w3 wr g1 none))
    (fun _ i _ => xs.length - (intOf i).toNat)
  case atStart => exact ⟨0, t, rfl, ⟨fun _ => rfl⟩, ⟨Nat.zero_le _⟩, KLd, ⟨Kd.R_nil _ _ _ _ _⟩, BD, ⟨ht0⟩⟩
  case round =>
    obtain ⟨j, tv, rfl, hnil, hj, KR, HR, BR, KW⟩ := hrel
    by_cases hlt : j < xs.length
    · obtain ⟨ad, cs, e, _, hK, hc⟩ := Kd.C_get (HCK.out _ KW.out) (0 : Int) (j : Int) (by omega) (by omega)
      obtain rfl := e
      have hK' : cs = [.int .i64 (xs.getD (j : Int).toNat 0)] := hK
      subst hK'
      have hx := hc 0 _ rfl
      have e2 : (ad.add ((j : Int).toNat * (Kd.int IntKind.i64).sz + 0)) = ad.add j := by show ad.add ((j : Int).toNat * 1 + 0) = ad.add j; rw [Nat.mul_one, Nat.add_zero, Int.toNat_natCast]
      rw [e2] at hx
      have hT1 : (xs.take (j + 1)).map (fun n => (⟨k, s.me, n, sq, s.vi, s.vm, b, od, ni, nm, cut⟩ : LT)) = (xs.take j).map (fun n => (⟨k, s.me, n, sq, s.vi, s.vm, b, od, ni, nm, cut⟩ : LT)) ++ [(fun n => (⟨k, s.me, n, sq, s.vi, s.vm, b, od, ni, nm, cut⟩ : LT)) (xs.getD (j : Int).toNat 0)] := by
        rw [List.take_succ_eq_append_getElem hlt, List.map_append, Int.toNat_natCast, List.getD_eq_getElem?_getD, List.getElem?_eq_getElem hlt]; rfl
      have HT1 := Aside0.mk hT1
      generalize xs.getD (j : Int).toNat 0 = n at hx HT1
      have hlti : (j : Int) < (xs.length : Int) := by omega
      have fr := fun i => blk_frozen KR.out i
      have ct := (blk_cell KR.out 2).trans rfl
      have hlen2 : ((xs.take j).map (fun n => (⟨k, s.me, n, sq, s.vi, s.vm, b, od, ni, nm, cut⟩ : LT))).length ≤ 64 := by rw [List.length_map, List.length_take]; have := HN.out; omega
      have HL2 := Aside0.mk hlen2
      clear hK hc hT1 e2 hlen2
      go_wp2_with (first
        | ((with_reducible refine gate_dst (N := 34) rfl ?_); clear fr ct; have KS : Aside0 ((wr.setCell ⟨g1, 2, none⟩ (.int .i64 n)).heap[g1]? = some (.cells #[.int .i64 k, .int .i64 s.me, .int .i64 n, .int .u64 sq, .int .i64 0, .slice none 0 0, .int .u64 s.vi, .int .u64 s.vm, .int .u64 b, .int .u64 od, .int .u64 ni, .int .u64 nm, .int .u64 cut, .slice none 0 0, .slice none 0 0, .float .f64 0] 40 (0, 0))) := ⟨blk_put KR.out 2 _ rfl⟩; have RS := Aside0.mk (Kd.R_keep (Kd.R_bound HR.out) ((KeepBut.refl wr g1 none).set_ 2 (.int .i64 n)).k (fun k hk => by have := hk.2.1; have := lt3.out; omega)); have BS := Aside0.mk (below_set (j := 2) (v := .int .i64 n) BR.out L1.out); have KW2 := Aside0.mk (KW.out.set_ 2 (.int .i64 n)); generalize wr.setCell ⟨g1, 2, none⟩ (.int .i64 n) = ws at KS RS BS KW2 ⊢; refine wpList_load_row rfl 40 (.tmp 4) rfl g1 rfl 40 #[.int .i64 k, .int .i64 s.me, .int .i64 n, .int .u64 sq, .int .i64 0, .slice none 0 0, .int .u64 s.vi, .int .u64 s.vm, .int .u64 b, .int .u64 od, .int .u64 ni, .int .u64 nm, .int .u64 cut, .slice none 0 0, .slice none 0 0, .float .f64 0] (0, 0) _ KS.out Tryd.underlying40 rfl si40 ?_)
        | ((with_reducible refine gate_dst (N := 35) rfl ?_); refine slice_raw rfl rfl ⟨k, s.me, n, sq, s.vi, s.vm, b, od, ni, nm, cut⟩ rfl ?_)
        | ((with_reducible refine gate_dst (N := 36) rfl ?_); go_loud (refine Kd.R_append kL (w0 := ws) w3.heap.size rfl (.tmp 33) (.tmp 35) 31 40 (.agg #[.int .i64 0, .int .i64 0, .int .i64 0, .int .u64 0, .int .i64 0, .slice none 0 0, .int .u64 0, .int .u64 0, .int .u64 0, .int .u64 0, .int .u64 0, .int .u64 0, .int .u64 0, .slice none 0 0, .slice none 0 0, .float .f64 0]) 176 rfl Tryd.underlying31 info40 rfl (by decide) (by decide) u6 ((xs.take j).map (fun n => (⟨k, s.me, n, sq, s.vi, s.vm, b, od, ni, nm, cut⟩ : LT))) ⟨k, s.me, n, sq, s.vi, s.vm, b, od, ni, nm, cut⟩ _ (fun _ => True) (fun _ => False) rfl rfl rfl (fun _ h => h.elim) (fun _ _ => trivial) (Kd.R_mono RS.out (fun _ _ => trivial)) (Below.refl _ _) KW2.out.1 (by have := HL2.out; omega) ?_); intro v1 w5 hR hb hg hat; have HR5 := Aside0.mk hR; have KS5 := Aside0.mk (blk_belowN KS.out lt3.out hb); have BR5 := Aside0.mk (BS.out.trans (hb.mono LW.out)); have KW5 := Aside0.mk (keep_below KW2.out (Nat.le_refl _) hb); clear hR hb hg hat))
      go_roundw
      case rel => exact ⟨j + 1, n, by go_num, ⟨fun h => absurd h (Nat.succ_ne_zero j)⟩, ⟨hlt⟩, KS5, ⟨by rw [HT1.out]; exact HR5.out⟩, BR5, KW5⟩
      case measure => simp [intOf]; omega
    · have hjn : j = xs.length := by have := hj.out; omega
      have hlt' : ¬ (j : Int) < (xs.length : Int) := by omega
      subst hjn
      rw [List.take_length] at HR
      go_wp2
      go_ret
      exact ⟨_, rfl, Kd.R_lower HR.out LW.out, fun h => hnil.out (by rw [h]; rfl), BR.out⟩
end Go.Proofs.YtkjjegakfceibaaDoor.B
