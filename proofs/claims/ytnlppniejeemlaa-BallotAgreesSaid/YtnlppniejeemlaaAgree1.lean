/- By hand: acceptors in a row: raise, Prepare, Accept. -/
import Derived.Test.YtnlppniejeemlaaAgree0
import Derived.Laws.CopyOwn
namespace Go.Proofs.Ytnlppniejeemlaa.B
open Go Go.RowKit Go.Proofs.Ytnlppniejeemlaa.Pure Go.Proofs.YtnlppniejeemlaaW.PrintWords Go.Proofs.YtnlppniejeemlaaW.PrintLast Go.Proofs.YtnlppniejeemlaaW.PrintMore
set_option linter.unusedVariables false
set_option linter.unusedSimpArgs false

/-- block g holds the n acceptors T -/
def ARow (w : World) (g n : Nat) (T : Nat → Acc) : Prop := ∃ cells : Array Value, w.heap[g]? = some (.cells cells 31 (0, 0)) ∧ ∀ j, j < n → cells[j * 4]? = some (.int .u64 (T j).top) ∧ cells[j * 4 + 1]? = some (.int .u64 (T j).last.f0) ∧ cells[j * 4 + 2]? = some (.int .u64 (T j).last.f1.f0) ∧ cells[j * 4 + 3]? = some (.int .u64 (T j).last.f1.f1)
def setA (T : Nat → Acc) (j : Nat) (a : Acc) (i : Nat) : Acc := if i = j then a else T i
theorem ARow.at_ {w : World} {g n : Nat} {T : Nat → Acc} (h : ARow w g n T) (j : Nat) (hj : j < n) : w.cell? ⟨g, j * 4, none⟩ = some (.int .u64 (T j).top) ∧ w.cell? ⟨g, j * 4 + 1, none⟩ = some (.int .u64 (T j).last.f0) ∧ w.cell? ⟨g, j * 4 + 1 + 1, none⟩ = some (.int .u64 (T j).last.f1.f0) ∧ w.cell? ⟨g, j * 4 + 1 + 2, none⟩ = some (.int .u64 (T j).last.f1.f1) := by
  obtain ⟨cells, hb, hc⟩ := h
  have := hc j hj
  exact ⟨(blk_cell hb _).trans this.1, (blk_cell hb _).trans this.2.1, (blk_cell hb _).trans this.2.2.1, (blk_cell hb _).trans this.2.2.2⟩
theorem ARow.free {w : World} {g n : Nat} {T : Nat → Acc} (h : ARow w g n T) (i : Nat) : w.frozen? ⟨g, i, none⟩ = false := by
  obtain ⟨cells, hb, hc⟩ := h
  exact blk_frozen hb i
theorem ARow.lt {w : World} {g n : Nat} {T : Nat → Acc} (h : ARow w g n T) : g < w.heap.size := by
  obtain ⟨cells, hb, hc⟩ := h
  exact blk_lt hb
theorem ARow.below {w W : World} {g n : Nat} {T : Nat → Acc} (h : ARow w g n T) (hb : Below w.heap.size w W) : ARow W g n T := by
  obtain ⟨cells, h1, hc⟩ := h
  exact ⟨cells, blk_below h1 hb, hc⟩
theorem ARow.keep {w W : World} {g g' n : Nat} {T : Nat → Acc} (h : ARow w g n T) (hk : KeepBut w W g' none) (hne : g ≠ g') : ARow W g n T := by
  obtain ⟨cells, h1, hc⟩ := h
  exact ⟨cells, (hk.2 g (blk_lt h1) hne (by simp)).trans h1, hc⟩
theorem ARow.ext {w : World} {g n : Nat} {T T' : Nat → Acc} (h : ARow w g n T) (he : ∀ j, j < n → T j = T' j) : ARow w g n T' := by
  obtain ⟨cells, h1, hc⟩ := h
  exact ⟨cells, h1, fun j hj => by rw [← he j hj]; exact hc j hj⟩
theorem ARow.setTop {w : World} {g n : Nat} {T : Nat → Acc} (h : ARow w g n T) (j : Nat) (hj : j < n) (b : Int) : ARow (w.setCell ⟨g, j * 4, none⟩ (.int .u64 b)) g n (setA T j ⟨b, (T j).last⟩) := by
  obtain ⟨cells, h1, hc⟩ := h
  refine ⟨_, blk_put h1 _ _ rfl, fun i hi => ?_⟩
  have hs : j * 4 < cells.size := (Array.getElem?_eq_some_iff.1 (hc j hj).1).1
  have hci := hc i hi
  simp only [Array.getElem?_setIfInBounds]
  unfold setA
  by_cases e : i = j
  · subst e
    have e2 : (if i = i then (⟨b, (T i).last⟩ : Acc) else T i) = ⟨b, (T i).last⟩ := if_pos rfl
    rw [e2]
    exact ⟨by rw [if_pos rfl, if_pos hs], by rw [if_neg (by omega)]; exact hci.2.1, by rw [if_neg (by omega)]; exact hci.2.2.1, by rw [if_neg (by omega)]; exact hci.2.2.2⟩
  · rw [if_neg e]
    exact ⟨by rw [if_neg (by omega)]; exact hci.1, by rw [if_neg (by omega)]; exact hci.2.1, by rw [if_neg (by omega)]; exact hci.2.2.1, by rw [if_neg (by omega)]; exact hci.2.2.2⟩
theorem ARow.setLast {w : World} {g n : Nat} {T : Nat → Acc} (h : ARow w g n T) (j : Nat) (hj : j < n) (x y z : Int) : ARow (((w.setCell ⟨g, j * 4 + 1, none⟩ (.int .u64 x)).setCell ⟨g, j * 4 + 1 + 1, none⟩ (.int .u64 y)).setCell ⟨g, j * 4 + 1 + 2, none⟩ (.int .u64 z)) g n (setA T j ⟨(T j).top, ⟨x, ⟨y, z⟩⟩⟩) := by
  obtain ⟨cells, h1, hc⟩ := h
  refine ⟨_, blk_put (blk_put (blk_put h1 _ _ rfl) _ _ rfl) _ _ rfl, fun i hi => ?_⟩
  have hs : j * 4 + 3 < cells.size := (Array.getElem?_eq_some_iff.1 (hc j hj).2.2.2).1
  have hci := hc i hi
  simp only [Array.getElem?_setIfInBounds, Array.size_setIfInBounds]
  unfold setA
  by_cases e : i = j
  · subst e
    have e2 : (if i = i then (⟨(T i).top, ⟨x, ⟨y, z⟩⟩⟩ : Acc) else T i) = ⟨(T i).top, ⟨x, ⟨y, z⟩⟩⟩ := if_pos rfl
    rw [e2]
    refine ⟨?_, ?_, ?_, ?_⟩
    · rw [if_neg (by omega), if_neg (by omega), if_neg (by omega)]; exact hci.1
    · rw [if_neg (by omega), if_neg (by omega), if_pos rfl, if_pos (by omega)]
    · rw [if_neg (by omega), if_pos rfl, if_pos (by omega)]
    · rw [if_pos rfl, if_pos (by omega)]
  · rw [if_neg e]
    refine ⟨?_, ?_, ?_, ?_⟩
    · rw [if_neg (by omega), if_neg (by omega), if_neg (by omega)]; exact hci.1
    · rw [if_neg (by omega), if_neg (by omega), if_neg (by omega)]; exact hci.2.1
    · rw [if_neg (by omega), if_neg (by omega), if_neg (by omega)]; exact hci.2.2.1
    · rw [if_neg (by omega), if_neg (by omega), if_neg (by omega)]; exact hci.2.2.2
set_option maxRecDepth 100000 in
set_option maxHeartbeats 1000000 in
theorem raise_ok (w0 w : World) (g n : Nat) (T : Nat → Acc) (j : Nat) (b : Int) (hj : j < n) (hb0 : b ≠ 0) (hle : (T j).top ≤ b) (hA : ARow w g n T) (hg : w0.heap.size ≤ g) (hB : Below w0.heap.size w0 w) :
    Calls Try.prog 27 #[.pointer (some ⟨g, j * 4, none⟩), .int .u64 b] w fun e w' => e = .returned (.int .i64 0) ∧ ARow w' g n (setA T j ⟨b, (T j).last⟩) ∧ Below w0.heap.size w0 w' ∧ KeepBut w w' g none := by
  have hz : (b == 0) = false := beq_eq_false_iff_ne.2 hb0
  have hlt : decide (b < (T j).top) = false := decide_eq_false (by omega)
  have HA := Aside0.mk hA
  have HG := Aside0.mk hg
  have HB := Aside0.mk hB
  have HL := Aside0.mk hle
  have HJ := Aside0.mk hj
  clear hA hg hB hle
  obtain ⟨c0, c1, c2, c3⟩ := HA.out.at_ j hj
  have fr := fun i => HA.out.free i
  go_enter Try.func27, Try.ntmps27
  go_wp2
  go_ret
  exact ⟨rfl, HA.out.setTop j HJ.out b, below_set HB.out HG.out, KeepBut.set_ (KeepBut.refl w g none) _ _⟩
set_option maxRecDepth 100000 in
set_option maxHeartbeats 1000000 in
theorem raise_no (w0 w : World) (g n : Nat) (T : Nat → Acc) (j : Nat) (b : Int) (hj : j < n) (hb0 : b ≠ 0) (hle : b < (T j).top) (hA : ARow w g n T) :
    Calls Try.prog 27 #[.pointer (some ⟨g, j * 4, none⟩), .int .u64 b] w fun e w' => e = .returned (.int .i64 160) ∧ w' = w := by
  have hz : (b == 0) = false := beq_eq_false_iff_ne.2 hb0
  have hlt : decide (b < (T j).top) = true := decide_eq_true hle
  have HA := Aside0.mk hA
  obtain ⟨c0, c1, c2, c3⟩ := HA.out.at_ j hj
  clear hA hle
  go_enter Try.func27, Try.ntmps27
  go_wp2
  go_ret
  exact ⟨rfl, rfl⟩
set_option maxRecDepth 100000 in
set_option maxHeartbeats 1000000 in
theorem prep_ok (w0 w : World) (g n : Nat) (T : Nat → Acc) (j : Nat) (b : Int) (hj : j < n) (hb0 : b ≠ 0) (hle : (T j).top ≤ b) (hA : ARow w g n T) (hg : w0.heap.size ≤ g) (hB : Below w0.heap.size w0 w) :
    Calls Try.prog 12 #[.pointer (some ⟨g, j * 4, none⟩), .int .u64 b] w fun e w' => e = .returned (.tuple #[.agg #[.int .u64 (T j).last.f0, .int .u64 (T j).last.f1.f0, .int .u64 (T j).last.f1.f1], .int .i64 0]) ∧ ARow w' g n (setA T j ⟨b, (T j).last⟩) ∧ Below w0.heap.size w0 w' ∧ KeepBut w w' g none := by
  have HA := Aside0.mk hA
  have HG := Aside0.mk hg
  have HB := Aside0.mk hB
  have HL := Aside0.mk hle
  have HJ := Aside0.mk hj
  clear hA hg hB hle
  go_enter Try.func12, Try.ntmps12
  go_wp2_with (first
    | ((with_reducible refine gate_dst (N := 4) rfl ?_); refine box_event ?hg (N := 4) ?hd (cs := #[.int .u64 0, .int .u64 0, .int .u64 0]) (t := 29) ?hr ?_; (case hd => rfl); (case hg => rfl); (case hr => first | (go_simp; done) | (go_simp; rfl)); intro g1 hg1 w1 hb1 hB1; have G1 := Aside0.mk hg1; have K1 := Aside0.mk hb1; have B1 := Aside0.mk hB1; clear hg1 hb1 hB1)
    | (go_at_call 27; refine (raise_ok w0 _ g n T j b HJ.out hb0 HL.out (HA.out.below B1.out) HG.out (below_step HB.out B1.out)).mono ?_; rintro e w2 ⟨rfl, hA_, hB_, hK_⟩; have HA2 := Aside0.mk hA_; have HB2 := Aside0.mk hB_; have HK2 := Aside0.mk (KeepBut.trans (KeepBut.of_below B1.out g none) hK_ (.inl rfl)); have hat := hA_.at_ j hj; (simp only [setA, if_pos] at hat); have d1 := hat.2.1; have d2 := hat.2.2.1; have d3 := hat.2.2.2; clear hat; have KB2 := Aside0.mk ((hK_.2 g1 (blk_lt K1.out) (by rw [G1.out]; exact Nat.ne_of_gt HA.out.lt) (by simp)).trans K1.out); have q0 := (blk_cell KB2.out 0).trans rfl; have q1 := (blk_cell KB2.out 1).trans rfl; have q2 := (blk_cell KB2.out 2).trans rfl; have fr := fun i => blk_frozen KB2.out i; clear hA_ hB_ hK_))
  have L1 : w0.heap.size ≤ g1 := by rw [G1.out]; exact HB.out.size
  have ng : g ≠ g1 := by rw [G1.out]; exact Nat.ne_of_lt HA.out.lt
  refine bodyPost_ret (results_ct rfl _ _ g1 29 #[.int .u64 (T j).last.f0, .int .u64 (T j).last.f1.f0, .int .u64 (T j).last.f1.f1] (0, 0) _ rfl (by refine blk_put (cs := #[.int .u64 (T j).last.f0, .int .u64 (T j).last.f1.f0, .int .u64 0]) ?_ 2 _ rfl; refine blk_put (cs := #[.int .u64 (T j).last.f0, .int .u64 0, .int .u64 0]) ?_ 1 _ rfl; refine blk_put (cs := #[.int .u64 0, .int .u64 0, .int .u64 0]) ?_ 0 _ rfl; exact KB2.out) Try.underlying29 rfl (by kernel_rfl)) rfl ?_
  refine ⟨rfl, ?_, by repeat (first | exact HB2.out | refine below_set ?_ L1), ?_⟩
  · obtain ⟨cells, h1, hc⟩ := HA2.out
    exact ⟨cells, blk_far (blk_far (blk_far h1 ng _) ng _) ng _, hc⟩
  · exact keep_far (keep_far (keep_far HK2.out (by rw [G1.out]; exact Nat.le_refl _) _) (by rw [G1.out]; exact Nat.le_refl _) _) (by rw [G1.out]; exact Nat.le_refl _) _
set_option maxRecDepth 100000 in
set_option maxHeartbeats 1000000 in
theorem prep_no (w0 w : World) (g n : Nat) (T : Nat → Acc) (j : Nat) (b : Int) (hj : j < n) (hb0 : b ≠ 0) (hle : b < (T j).top) (hA : ARow w g n T) :
    Calls Try.prog 12 #[.pointer (some ⟨g, j * 4, none⟩), .int .u64 b] w fun e w' => e = .returned (.tuple #[.agg #[.int .u64 0, .int .u64 0, .int .u64 0], .int .i64 160]) ∧ Below w.heap.size w w' := by
  have HA := Aside0.mk hA
  have HL := Aside0.mk hle
  have HJ := Aside0.mk hj
  clear hA hle
  go_enter Try.func12, Try.ntmps12
  go_wp2_with (first
    | ((with_reducible refine gate_dst (N := 4) rfl ?_); refine box_event ?hg (N := 4) ?hd (cs := #[.int .u64 0, .int .u64 0, .int .u64 0]) (t := 29) ?hr ?_; (case hd => rfl); (case hg => rfl); (case hr => first | (go_simp; done) | (go_simp; rfl)); intro g1 hg1 w1 hb1 hB1; have G1 := Aside0.mk hg1; have K1 := Aside0.mk hb1; have B1 := Aside0.mk hB1; clear hg1 hb1 hB1)
    | (go_at_call 27; refine (raise_no w0 _ g n T j b HJ.out hb0 HL.out (HA.out.below B1.out)).mono ?_; rintro e w2 ⟨rfl, rfl⟩; have q0 := (blk_cell K1.out 0).trans rfl; have q1 := (blk_cell K1.out 1).trans rfl; have q2 := (blk_cell K1.out 2).trans rfl; have fr := fun i => blk_frozen K1.out i))
  have L1 : w.heap.size ≤ g1 := by rw [G1.out]; exact Nat.le_refl _
  refine bodyPost_ret (results_ct rfl _ _ g1 29 #[.int .u64 0, .int .u64 0, .int .u64 0] (0, 0) _ rfl (by refine blk_put (cs := #[.int .u64 0, .int .u64 0, .int .u64 0]) ?_ 2 _ rfl; refine blk_put (cs := #[.int .u64 0, .int .u64 0, .int .u64 0]) ?_ 1 _ rfl; refine blk_put (cs := #[.int .u64 0, .int .u64 0, .int .u64 0]) ?_ 0 _ rfl; exact K1.out) Try.underlying29 rfl (by kernel_rfl)) rfl ?_
  exact ⟨rfl, by repeat (first | exact B1.out | refine below_set ?_ L1)⟩
set_option maxRecDepth 100000 in
set_option maxHeartbeats 1000000 in
theorem acc_ok (w0 w : World) (g n : Nat) (T : Nat → Acc) (j : Nat) (b : Int) (hj : j < n) (hb0 : b ≠ 0) (v : S27) (hle : (T j).top ≤ b) (hA : ARow w g n T) (hg : w0.heap.size ≤ g) (hB : Below w0.heap.size w0 w) :
    Calls Try.prog 11 #[.pointer (some ⟨g, j * 4, none⟩), .int .u64 b, .agg #[.int .u64 v.f0, .int .u64 v.f1]] w fun e w' => e = .returned (.int .i64 0) ∧ ARow w' g n (setA T j ⟨b, ⟨b, v⟩⟩) ∧ Below w0.heap.size w0 w' ∧ KeepBut w w' g none := by
  have HA := Aside0.mk hA
  have HG := Aside0.mk hg
  have HB := Aside0.mk hB
  have HL := Aside0.mk hle
  have HJ := Aside0.mk hj
  clear hA hg hB hle
  go_enter Try.func11, Try.ntmps11
  go_wp2_with (first
    | ((with_reducible refine gate_dst (N := 5) rfl ?_); refine box_event ?hg (N := 5) ?hd (cs := #[.int .u64 v.f0, .int .u64 v.f1]) (t := 27) ?hr ?_; (case hd => rfl); (case hg => rfl); (case hr => first | (go_simp; done) | (go_simp; rfl)); intro g1 hg1 w1 hb1 hB1; have G1 := Aside0.mk hg1; have K1 := Aside0.mk hb1; have B1 := Aside0.mk hB1; clear hg1 hb1 hB1)
    | (go_at_call 27; refine (raise_ok w0 _ g n T j b HJ.out hb0 HL.out (HA.out.below B1.out) HG.out (below_step HB.out B1.out)).mono ?_; rintro e w2 ⟨rfl, hA_, hB_, hK_⟩; have HA2 := Aside0.mk hA_; have HB2 := Aside0.mk hB_; have HK2 := Aside0.mk (KeepBut.trans (KeepBut.of_below B1.out g none) hK_ (.inl rfl)); have hat := hA_.at_ j hj; have d1 := hat.2.1; have d2 := hat.2.2.1; have d3 := hat.2.2.2; clear hat; have KB2 := Aside0.mk ((hK_.2 g1 (blk_lt K1.out) (by rw [G1.out]; exact Nat.ne_of_gt HA.out.lt) (by simp)).trans K1.out); have q0 := (blk_cell KB2.out 0).trans rfl; have q1 := (blk_cell KB2.out 1).trans rfl; have fr := fun i => hA_.free i; clear hA_ hB_ hK_))
  go_ret
  refine ⟨rfl, ?_, below_set (below_set (below_set HB2.out HG.out) HG.out) HG.out, KeepBut.set_ (KeepBut.set_ (KeepBut.set_ HK2.out _ _) _ _) _ _⟩
  have := HA2.out.setLast j HJ.out b v.f0 v.f1
  refine this.ext (fun i hi => ?_)
  unfold setA
  by_cases e : i = j
  · rw [if_pos e, if_pos e, if_pos rfl]
  · rw [if_neg e, if_neg e, if_neg e]
set_option maxRecDepth 100000 in
set_option maxHeartbeats 1000000 in
theorem acc_no (w0 w : World) (g n : Nat) (T : Nat → Acc) (j : Nat) (b : Int) (hj : j < n) (hb0 : b ≠ 0) (v : S27) (hle : b < (T j).top) (hA : ARow w g n T) :
    Calls Try.prog 11 #[.pointer (some ⟨g, j * 4, none⟩), .int .u64 b, .agg #[.int .u64 v.f0, .int .u64 v.f1]] w fun e w' => e = .returned (.int .i64 160) ∧ Below w.heap.size w w' := by
  have HA := Aside0.mk hA
  have HL := Aside0.mk hle
  have HJ := Aside0.mk hj
  clear hA hle
  go_enter Try.func11, Try.ntmps11
  go_wp2_with (first
    | ((with_reducible refine gate_dst (N := 5) rfl ?_); refine box_event ?hg (N := 5) ?hd (cs := #[.int .u64 v.f0, .int .u64 v.f1]) (t := 27) ?hr ?_; (case hd => rfl); (case hg => rfl); (case hr => first | (go_simp; done) | (go_simp; rfl)); intro g1 hg1 w1 hb1 hB1; have G1 := Aside0.mk hg1; have K1 := Aside0.mk hb1; have B1 := Aside0.mk hB1; clear hg1 hb1 hB1)
    | (go_at_call 27; refine (raise_no w0 _ g n T j b HJ.out hb0 HL.out (HA.out.below B1.out)).mono ?_; rintro e w2 ⟨rfl, rfl⟩))
  go_ret
  exact ⟨rfl, B1.out⟩
end Go.Proofs.Ytnlppniejeemlaa.B
