/- Texts of this claim, one behind the other (joined by pack.py): St Items Piece PieceW Lists. -/
import Derived.Test.YtondgoabnmgcaaaKLetterEncodes15
import Derived.Laws.Pointers
import Derived.Test.YtondgoabnmgcaaaKLetterEncodes14
section
/- By hand: where a walk of the reader's own functions stands: the reader's block, the box of the pointer to it, and the block that is filled. -/
namespace Go.Proofs.Ytondgoabnmgcaaa.B
open Go.RowKit Go.Proofs.YtondgoabnmgcaaaW.PrintWords Go.Proofs.YtondgoabnmgcaaaW.PrintLast Go.Proofs.YtondgoabnmgcaaaW.PrintMore
open Go.Proofs.YtondgoabnmgcaaaO.B (IsS63)
set_option linter.unusedSimpArgs false
set_option linter.unusedVariables false

structure St (w0 w W : World) (g : Nat) (s : ByteArray) (q : Int) (g1 g2 : Nat) (cs : Array Value) (t : TypeId) : Prop where
  I : IsS63 w0 W g s q
  B : Below w0.heap.size w0 W
  K : KeepBut w W g none
  K1 : W.heap[g1]? = some (.cells #[.pointer (some ⟨g, 0, none⟩)] 65 (0, 0))
  K2 : W.heap[g2]? = some (.cells cs t (0, 0))
  n1 : g1 ≠ g
  n2 : g2 ≠ g
  n12 : g1 ≠ g2
  l1 : w.heap.size ≤ g1
  l2 : w.heap.size ≤ g2
  l0 : w0.heap.size ≤ w.heap.size
variable {w0 w W : World} {g : Nat} {s : ByteArray} {q : Int} {g1 g2 : Nat} {cs : Array Value} {t : TypeId}
theorem St.c1 (S : St w0 w W g s q g1 g2 cs t) : W.cell? ⟨g1, 0, none⟩ = some (.pointer (some ⟨g, 0, none⟩)) := blk_cell S.K1 0
theorem St.c2 (S : St w0 w W g s q g1 g2 cs t) (j : Nat) : W.cell? ⟨g2, j, none⟩ = cs[j]? := blk_cell S.K2 j
theorem St.f2 (S : St w0 w W g s q g1 g2 cs t) (j : Nat) : W.frozen? ⟨g2, j, none⟩ = false := blk_frozen S.K2 j
theorem St.call {W' : World} {q' : Int} (S : St w0 w W g s q g1 g2 cs t) (hI : IsS63 w0 W' g s q') (hB : Below w0.heap.size w0 W') (hK : KeepBut W W' g none) : St w0 w W' g s q' g1 g2 cs t :=
  ⟨hI, hB, S.K.trans hK (.inl rfl), (hK.blk S.K1 S.n1 (by simp)), (hK.blk S.K2 S.n2 (by simp)), S.n1, S.n2, S.n12, S.l1, S.l2, S.l0⟩
theorem St.put (S : St w0 w W g s q g1 g2 cs t) (j : Nat) (v : Value) : St w0 w (W.setCell ⟨g2, j, none⟩ v) g s q g1 g2 (cs.setIfInBounds j v) t :=
  ⟨S.I.far (Ne.symm S.n2) v, below_set S.B (Nat.le_trans S.l0 S.l2), keep_far S.K (p := ⟨g2, j, none⟩) S.l2 v, blk_far (p := ⟨g2, j, none⟩) S.K1 S.n12 v, blk_put S.K2 j v rfl, S.n1, S.n2, S.n12, S.l1, S.l2, S.l0⟩
theorem St.new {w1 w2 : World} {p : Int} (HI : IsS63 w0 w g s p) (HB : Below w0.heap.size w0 w) (e1 : g1 = w.heap.size) (h1 : w1.heap[g1]? = some (.cells #[.pointer (some ⟨g, 0, none⟩)] 65 (0, 0))) (b1 : Below w.heap.size w w1)
    (e2 : g2 = w1.heap.size) (h2 : w2.heap[g2]? = some (.cells cs t (0, 0))) (b2 : Below w1.heap.size w1 w2) : St w0 w w2 g s p g1 g2 cs t := by
  have hg := blk_lt HI.1
  have h1' := blk_lt h1
  have hs := b1.size
  have hl := HB.size
  exact ⟨⟨blk_below (blk_below HI.1 b1) b2, HI.2⟩, below_step (below_step HB b1) b2, (KeepBut.of_below b1 g none).trans (KeepBut.of_below b2 g none) (.inl rfl), blk_below h1 b2, h2, by omega, by omega, by omega, by omega, by omega, hl⟩
end Go.Proofs.Ytondgoabnmgcaaa.B
end
section
/- By hand: an update, a span of the reader. -/
namespace Go.Proofs.Ytondgoabnmgcaaa.B
open Go.RowKit Go.Proofs.YtondgoabnmgcaaaW.PrintWords Go.Proofs.YtondgoabnmgcaaaW.PrintLast Go.Proofs.YtondgoabnmgcaaaW.PrintMore
open Go.Proofs.YtondgoabnmgcaaaO.B (IsS63)
open Go.Proofs.YtondgoabnmgcaaaO.R (rdv)
set_option linter.unusedSimpArgs false
set_option linter.unusedVariables false
theorem size77 : (Try.prog.info? 77).map (·.size) = some 2 := by kernel_rfl
theorem size70 : (Try.prog.info? 70).map (·.size) = some 3 := by kernel_rfl
theorem keep_row {w W : World} {g g' : Nat} (h : KeepBut w W g none) (hg : w.heap.size ≤ g') (cs : Array Value) : KeepBut w (W.setRow g' cs) g none :=
  ⟨by simpa [World.setRow] using h.1, fun i hi h1 h2 => (setRow_other W g' i cs (by omega)).trans (h.2 i hi h1 h2)⟩
theorem one2 {x y : Int} {k l : IntKind} : (#[Value.int k x, Value.int l y] : Array Value).all (·.oneCell') = true := by simp [Value.oneCell']
theorem one3 {x y z : Int} {k l m : IntKind} : (#[Value.int k x, Value.int l y, Value.int m z] : Array Value).all (·.oneCell') = true := by simp [Value.oneCell']
theorem size27 : (Try.prog.info? 27).map (·.size) = some 2 := by kernel_rfl
theorem size65 : (Try.prog.info? 65).map (·.size) = some 1 := by kernel_rfl

set_option maxRecDepth 20000 in
set_option maxHeartbeats 1000000 in
theorem span_ok (w0 w : World) (g : Nat) (s : ByteArray) (p : Nat) (hs : s.size < 4611686018427387904) (h : p + 16 ≤ s.size) (hI : IsS63 w0 w g s p) (hB : Below w0.heap.size w0 w) :
    Calls Try.prog 35 #[.agg #[.pointer (some ⟨g, 0, none⟩)]] w fun e w' => e = .returned (.agg #[.int .u64 (rdv s p 8), .int .u64 (rdv s (p + 8) 8)]) ∧ IsS63 w0 w' g s ((p + 16 : Nat) : Int) ∧ Below w0.heap.size w0 w' ∧ KeepBut w w' g none := by
  have HI := Aside0.mk hI
  have HB := Aside0.mk hB
  have HH := Aside0.mk h
  have size65 := size65
  clear hI hB h
  go_enter Try.func35, Try.ntmps35
  go_wp2_with (first
    | ((with_reducible refine gate_dst (N := 1) rfl ?_); refine box_event ?hg (N := 1) ?hd (cs := #[.pointer (some ⟨g, 0, none⟩)]) (t := 65) ?hr ?_; (case hd => rfl); (case hg => rfl); (case hr => first | (go_simp; done) | (go_simp; rfl)); intro g1 hg_ w1 hb_ hB_; have K1 := Aside0.mk hb_; have HG1 := Aside0.mk hg_; have HB1 := Aside0.mk hB_; clear hg_ hb_ hB_)
    | ((with_reducible refine gate_dst (N := 2) rfl ?_); refine box_event ?hg (N := 2) ?hd (cs := #[.int .u64 0, .int .u64 0]) (t := 77) ?hr ?_; (case hd => rfl); (case hg => rfl); (case hr => first | (go_simp; done) | (go_simp; rfl)); intro g2 hg_ w2 hb_ hB_; have T0 := Aside0.mk (St.new HI.out HB.out HG1.out K1.out HB1.out hg_ hb_ hB_); clear hg_ hb_ hB_ HI HB HG1 K1 HB1)
    | (refine wpList_load_row rfl 65 (.tmp 1) rfl g1 rfl 65 #[.pointer (some ⟨g, 0, none⟩)] (0, 0) _ T0.out.K1 Try.underlying65 rfl size65 ?_)
    | (go_at_call 28; refine (large_ok w0 _ g s p hs (by have := HH.out; omega) T0.out.I T0.out.B).mono ?_; rintro e wb0 ⟨rfl, hi, hb, hk⟩; have S0 := Aside0.mk (T0.out.call hi hb hk); have z := S0.out.c2 0; have zf := S0.out.f2 0; clear hi hb hk T0)
    | (refine wpList_load_row rfl 65 (.tmp 1) rfl g1 rfl 65 #[.pointer (some ⟨g, 0, none⟩)] (0, 0) _ (S0.out.put 0 (.int .u64 (rdv s p 8))).K1 Try.underlying65 rfl size65 ?_; have T1 := Aside0.mk (S0.out.put 0 (.int .u64 (rdv s p 8))); generalize World.setCell _ _ _ = wa1 at T1 ⊢; clear S0 z)
    | (go_at_call 28; refine (large_ok w0 _ g s (p + 8) hs (by have := HH.out; omega) T1.out.I T1.out.B).mono ?_; rintro e wb1 ⟨rfl, hi, hb, hk⟩; have S1 := Aside0.mk (T1.out.call hi hb hk); have z := S1.out.c2 1; have zf := S1.out.f2 1; clear hi hb hk T1)
    | (refine wpList_load_row rfl 77 (.tmp 2) rfl g2 rfl 77 #[.int .u64 (rdv s p 8), .int .u64 (rdv s (p + 8) 8)] (0, 0) _ (S1.out.put 1 (.int .u64 (rdv s (p + 8) 8))).K2 Try.underlying77 rfl size77 ?_; have TZ : Aside0 (St w0 w _ g s _ g1 g2 #[.int .u64 (rdv s p 8), .int .u64 (rdv s (p + 8) 8)] 77) := Aside0.mk (S1.out.put 1 (.int .u64 (rdv s (p + 8) 8))); generalize World.setCell _ _ _ = wz at TZ ⊢; clear S1 z zf)
    | ((with_reducible refine gate_store (t := 77) (p := 2) rfl ?_); go_loud (refine wpList_store_row rfl 77 (.tmp 2) (.tmp 9) rfl g2 #[.int .u64 (rdv s p 8), .int .u64 (rdv s (p + 8) 8)] rfl rfl 77 #[.int .u64 (rdv s p 8), .int .u64 (rdv s (p + 8) 8)] TZ.out.K2 size77 rfl one2 ?_); have RK := Aside0.mk (setRow_heap wz g2 #[.int .u64 (rdv s p 8), .int .u64 (rdv s (p + 8) 8)] #[.int .u64 (rdv s p 8), .int .u64 (rdv s (p + 8) 8)] 77 (0, 0) TZ.out.K2); have RB := Aside0.mk (below_setRow TZ.out.B (Nat.le_trans TZ.out.l0 TZ.out.l2) #[.int .u64 (rdv s p 8), .int .u64 (rdv s (p + 8) 8)]); have RH := Aside0.mk (keep_row TZ.out.K TZ.out.l2 #[.int .u64 (rdv s p 8), .int .u64 (rdv s (p + 8) 8)]); have RI : Aside0 (IsS63 w0 (wz.setRow g2 #[.int .u64 (rdv s p 8), .int .u64 (rdv s (p + 8) 8)]) g s ((p + 16 : Nat) : Int)) := ⟨(setRow_other wz g2 g _ (Ne.symm TZ.out.n2)).trans TZ.out.I.1, TZ.out.I.2⟩; generalize wz.setRow g2 _ = w9 at RK RB RH RI ⊢; clear TZ))
  refine bodyPost_ret (v := .agg #[.int .u64 (rdv s p 8), .int .u64 (rdv s (p + 8) 8)]) (results_cell_row (fn := Try.f35) (p := 2) (ty := 77) (by kernel_rfl) _ _ g2 77 #[.int .u64 (rdv s p 8), .int .u64 (rdv s (p + 8) 8)] (0, 0) _ rfl RK.out Try.underlying77 rfl size77) rfl ?_
  exact ⟨rfl, RI.out, RB.out, RH.out⟩
set_option maxRecDepth 20000 in
set_option maxHeartbeats 1000000 in
theorem span_bad0 (w0 w : World) (g : Nat) (s : ByteArray) (p : Nat) (hs : s.size < 4611686018427387904) (h0 : p + 0 ≤ s.size) (h : s.size < p + 8) (hI : IsS63 w0 w g s p) (hB : Below w0.heap.size w0 w) :
    Calls Try.prog 35 #[.agg #[.pointer (some ⟨g, 0, none⟩)]] w fun e w' => e = bad 10 ∧ Below w0.heap.size w0 w' ∧ KeepBut w w' g none := by
  have HI := Aside0.mk hI
  have HB := Aside0.mk hB
  have HH := Aside0.mk h
  have size65 := size65
  clear hI hB h
  go_enter Try.func35, Try.ntmps35
  go_wp2_with (first
    | ((with_reducible refine gate_dst (N := 1) rfl ?_); refine box_event ?hg (N := 1) ?hd (cs := #[.pointer (some ⟨g, 0, none⟩)]) (t := 65) ?hr ?_; (case hd => rfl); (case hg => rfl); (case hr => first | (go_simp; done) | (go_simp; rfl)); intro g1 hg_ w1 hb_ hB_; have K1 := Aside0.mk hb_; have HG1 := Aside0.mk hg_; have HB1 := Aside0.mk hB_; clear hg_ hb_ hB_)
    | ((with_reducible refine gate_dst (N := 2) rfl ?_); refine box_event ?hg (N := 2) ?hd (cs := #[.int .u64 0, .int .u64 0]) (t := 77) ?hr ?_; (case hd => rfl); (case hg => rfl); (case hr => first | (go_simp; done) | (go_simp; rfl)); intro g2 hg_ w2 hb_ hB_; have T0 := Aside0.mk (St.new HI.out HB.out HG1.out K1.out HB1.out hg_ hb_ hB_); clear hg_ hb_ hB_ HI HB HG1 K1 HB1)
    | (refine wpList_load_row rfl 65 (.tmp 1) rfl g1 rfl 65 #[.pointer (some ⟨g, 0, none⟩)] (0, 0) _ T0.out.K1 Try.underlying65 rfl size65 ?_)
    | (go_at_call 28; refine (large_bad w0 _ g s p (by omega) (by have := HH.out; omega) T0.out.I T0.out.B).mono ?_; rintro e w' ⟨rfl, hb, hk⟩; have RB := Aside0.mk hb; have RK := Aside0.mk (T0.out.K.trans hk (.inl rfl)); clear hb hk))
  exact ⟨rfl, rfl, RB.out, RK.out⟩
set_option maxRecDepth 20000 in
set_option maxHeartbeats 1000000 in
theorem span_bad1 (w0 w : World) (g : Nat) (s : ByteArray) (p : Nat) (hs : s.size < 4611686018427387904) (h0 : p + 8 ≤ s.size) (h : s.size < p + 16) (hI : IsS63 w0 w g s p) (hB : Below w0.heap.size w0 w) :
    Calls Try.prog 35 #[.agg #[.pointer (some ⟨g, 0, none⟩)]] w fun e w' => e = bad 10 ∧ Below w0.heap.size w0 w' ∧ KeepBut w w' g none := by
  have HI := Aside0.mk hI
  have HB := Aside0.mk hB
  have HH := Aside0.mk h
  have size65 := size65
  clear hI hB h
  go_enter Try.func35, Try.ntmps35
  go_wp2_with (first
    | ((with_reducible refine gate_dst (N := 1) rfl ?_); refine box_event ?hg (N := 1) ?hd (cs := #[.pointer (some ⟨g, 0, none⟩)]) (t := 65) ?hr ?_; (case hd => rfl); (case hg => rfl); (case hr => first | (go_simp; done) | (go_simp; rfl)); intro g1 hg_ w1 hb_ hB_; have K1 := Aside0.mk hb_; have HG1 := Aside0.mk hg_; have HB1 := Aside0.mk hB_; clear hg_ hb_ hB_)
    | ((with_reducible refine gate_dst (N := 2) rfl ?_); refine box_event ?hg (N := 2) ?hd (cs := #[.int .u64 0, .int .u64 0]) (t := 77) ?hr ?_; (case hd => rfl); (case hg => rfl); (case hr => first | (go_simp; done) | (go_simp; rfl)); intro g2 hg_ w2 hb_ hB_; have T0 := Aside0.mk (St.new HI.out HB.out HG1.out K1.out HB1.out hg_ hb_ hB_); clear hg_ hb_ hB_ HI HB HG1 K1 HB1)
    | (refine wpList_load_row rfl 65 (.tmp 1) rfl g1 rfl 65 #[.pointer (some ⟨g, 0, none⟩)] (0, 0) _ T0.out.K1 Try.underlying65 rfl size65 ?_)
    | (go_at_call 28; refine (large_ok w0 _ g s p hs (by have := HH.out; omega) T0.out.I T0.out.B).mono ?_; rintro e wb0 ⟨rfl, hi, hb, hk⟩; have S0 := Aside0.mk (T0.out.call hi hb hk); have z := S0.out.c2 0; have zf := S0.out.f2 0; clear hi hb hk T0)
    | (refine wpList_load_row rfl 65 (.tmp 1) rfl g1 rfl 65 #[.pointer (some ⟨g, 0, none⟩)] (0, 0) _ (S0.out.put 0 (.int .u64 (rdv s p 8))).K1 Try.underlying65 rfl size65 ?_; have T1 := Aside0.mk (S0.out.put 0 (.int .u64 (rdv s p 8))); generalize World.setCell _ _ _ = wa1 at T1 ⊢; clear S0 z)
    | (go_at_call 28; refine (large_bad w0 _ g s (p + 8) (by omega) (by have := HH.out; omega) T1.out.I T1.out.B).mono ?_; rintro e w' ⟨rfl, hb, hk⟩; have RB := Aside0.mk hb; have RK := Aside0.mk (T1.out.K.trans hk (.inl rfl)); clear hb hk))
  exact ⟨rfl, rfl, RB.out, RK.out⟩
set_option maxRecDepth 20000 in
set_option maxHeartbeats 1000000 in
theorem update_ok (w0 w : World) (g : Nat) (s : ByteArray) (p : Nat) (hs : s.size < 4611686018427387904) (h : p + 10 ≤ s.size) (hI : IsS63 w0 w g s p) (hB : Below w0.heap.size w0 w) :
    Calls Try.prog 30 #[.agg #[.pointer (some ⟨g, 0, none⟩)]] w fun e w' => e = .returned (.agg #[.int .i64 (rdv s p 1), .int .u64 (rdv s (p + 1) 8), .int .i64 (rdv s (p + 9) 1)]) ∧ IsS63 w0 w' g s ((p + 10 : Nat) : Int) ∧ Below w0.heap.size w0 w' ∧ KeepBut w w' g none := by
  have HI := Aside0.mk hI
  have HB := Aside0.mk hB
  have HH := Aside0.mk h
  have size65 := size65
  clear hI hB h
  go_enter Try.func30, Try.ntmps30
  go_wp2_with (first
    | ((with_reducible refine gate_dst (N := 1) rfl ?_); refine box_event ?hg (N := 1) ?hd (cs := #[.pointer (some ⟨g, 0, none⟩)]) (t := 65) ?hr ?_; (case hd => rfl); (case hg => rfl); (case hr => first | (go_simp; done) | (go_simp; rfl)); intro g1 hg_ w1 hb_ hB_; have K1 := Aside0.mk hb_; have HG1 := Aside0.mk hg_; have HB1 := Aside0.mk hB_; clear hg_ hb_ hB_)
    | ((with_reducible refine gate_dst (N := 2) rfl ?_); refine box_event ?hg (N := 2) ?hd (cs := #[.int .i64 0, .int .u64 0, .int .i64 0]) (t := 70) ?hr ?_; (case hd => rfl); (case hg => rfl); (case hr => first | (go_simp; done) | (go_simp; rfl)); intro g2 hg_ w2 hb_ hB_; have T0 := Aside0.mk (St.new HI.out HB.out HG1.out K1.out HB1.out hg_ hb_ hB_); clear hg_ hb_ hB_ HI HB HG1 K1 HB1)
    | (refine wpList_load_row rfl 65 (.tmp 1) rfl g1 rfl 65 #[.pointer (some ⟨g, 0, none⟩)] (0, 0) _ T0.out.K1 Try.underlying65 rfl size65 ?_)
    | (go_at_call 27; refine (small_ok w0 _ g s p hs (by have := HH.out; omega) T0.out.I T0.out.B).mono ?_; rintro e wb0 ⟨rfl, hi, hb, hk⟩; have S0 := Aside0.mk (T0.out.call hi hb hk); have z := S0.out.c2 0; have zf := S0.out.f2 0; clear hi hb hk T0)
    | (refine wpList_load_row rfl 65 (.tmp 1) rfl g1 rfl 65 #[.pointer (some ⟨g, 0, none⟩)] (0, 0) _ (S0.out.put 0 (.int .i64 (rdv s p 1))).K1 Try.underlying65 rfl size65 ?_; have T1 := Aside0.mk (S0.out.put 0 (.int .i64 (rdv s p 1))); generalize World.setCell _ _ _ = wa1 at T1 ⊢; clear S0 z)
    | (go_at_call 28; refine (large_ok w0 _ g s (p + 1) hs (by have := HH.out; omega) T1.out.I T1.out.B).mono ?_; rintro e wb1 ⟨rfl, hi, hb, hk⟩; have S1 := Aside0.mk (T1.out.call hi hb hk); have z := S1.out.c2 1; have zf := S1.out.f2 1; clear hi hb hk T1)
    | (refine wpList_load_row rfl 65 (.tmp 1) rfl g1 rfl 65 #[.pointer (some ⟨g, 0, none⟩)] (0, 0) _ (S1.out.put 1 (.int .u64 (rdv s (p + 1) 8))).K1 Try.underlying65 rfl size65 ?_; have T2 := Aside0.mk (S1.out.put 1 (.int .u64 (rdv s (p + 1) 8))); generalize World.setCell _ _ _ = wa2 at T2 ⊢; clear S1 z)
    | (go_at_call 27; refine (small_ok w0 _ g s (p + 9) hs (by have := HH.out; omega) T2.out.I T2.out.B).mono ?_; rintro e wb2 ⟨rfl, hi, hb, hk⟩; have S2 := Aside0.mk (T2.out.call hi hb hk); have z := S2.out.c2 2; have zf := S2.out.f2 2; clear hi hb hk T2)
    | (refine wpList_load_row rfl 70 (.tmp 2) rfl g2 rfl 70 #[.int .i64 (rdv s p 1), .int .u64 (rdv s (p + 1) 8), .int .i64 (rdv s (p + 9) 1)] (0, 0) _ (S2.out.put 2 (.int .i64 (rdv s (p + 9) 1))).K2 Try.underlying70 rfl size70 ?_; have TZ : Aside0 (St w0 w _ g s _ g1 g2 #[.int .i64 (rdv s p 1), .int .u64 (rdv s (p + 1) 8), .int .i64 (rdv s (p + 9) 1)] 70) := Aside0.mk (S2.out.put 2 (.int .i64 (rdv s (p + 9) 1))); generalize World.setCell _ _ _ = wz at TZ ⊢; clear S2 z zf)
    | ((with_reducible refine gate_store (t := 70) (p := 2) rfl ?_); go_loud (refine wpList_store_row rfl 70 (.tmp 2) (.tmp 12) rfl g2 #[.int .i64 (rdv s p 1), .int .u64 (rdv s (p + 1) 8), .int .i64 (rdv s (p + 9) 1)] rfl rfl 70 #[.int .i64 (rdv s p 1), .int .u64 (rdv s (p + 1) 8), .int .i64 (rdv s (p + 9) 1)] TZ.out.K2 size70 rfl one3 ?_); have RK := Aside0.mk (setRow_heap wz g2 #[.int .i64 (rdv s p 1), .int .u64 (rdv s (p + 1) 8), .int .i64 (rdv s (p + 9) 1)] #[.int .i64 (rdv s p 1), .int .u64 (rdv s (p + 1) 8), .int .i64 (rdv s (p + 9) 1)] 70 (0, 0) TZ.out.K2); have RB := Aside0.mk (below_setRow TZ.out.B (Nat.le_trans TZ.out.l0 TZ.out.l2) #[.int .i64 (rdv s p 1), .int .u64 (rdv s (p + 1) 8), .int .i64 (rdv s (p + 9) 1)]); have RH := Aside0.mk (keep_row TZ.out.K TZ.out.l2 #[.int .i64 (rdv s p 1), .int .u64 (rdv s (p + 1) 8), .int .i64 (rdv s (p + 9) 1)]); have RI : Aside0 (IsS63 w0 (wz.setRow g2 #[.int .i64 (rdv s p 1), .int .u64 (rdv s (p + 1) 8), .int .i64 (rdv s (p + 9) 1)]) g s ((p + 10 : Nat) : Int)) := ⟨(setRow_other wz g2 g _ (Ne.symm TZ.out.n2)).trans TZ.out.I.1, TZ.out.I.2⟩; generalize wz.setRow g2 _ = w9 at RK RB RH RI ⊢; clear TZ))
  refine bodyPost_ret (v := .agg #[.int .i64 (rdv s p 1), .int .u64 (rdv s (p + 1) 8), .int .i64 (rdv s (p + 9) 1)]) (results_cell_row (fn := Try.f30) (p := 2) (ty := 70) (by kernel_rfl) _ _ g2 70 #[.int .i64 (rdv s p 1), .int .u64 (rdv s (p + 1) 8), .int .i64 (rdv s (p + 9) 1)] (0, 0) _ rfl RK.out Try.underlying70 rfl size70) rfl ?_
  exact ⟨rfl, RI.out, RB.out, RH.out⟩
set_option maxRecDepth 20000 in
set_option maxHeartbeats 1000000 in
theorem update_bad0 (w0 w : World) (g : Nat) (s : ByteArray) (p : Nat) (hs : s.size < 4611686018427387904) (h0 : p + 0 ≤ s.size) (h : s.size < p + 1) (hI : IsS63 w0 w g s p) (hB : Below w0.heap.size w0 w) :
    Calls Try.prog 30 #[.agg #[.pointer (some ⟨g, 0, none⟩)]] w fun e w' => e = bad 10 ∧ Below w0.heap.size w0 w' ∧ KeepBut w w' g none := by
  have HI := Aside0.mk hI
  have HB := Aside0.mk hB
  have HH := Aside0.mk h
  have size65 := size65
  clear hI hB h
  go_enter Try.func30, Try.ntmps30
  go_wp2_with (first
    | ((with_reducible refine gate_dst (N := 1) rfl ?_); refine box_event ?hg (N := 1) ?hd (cs := #[.pointer (some ⟨g, 0, none⟩)]) (t := 65) ?hr ?_; (case hd => rfl); (case hg => rfl); (case hr => first | (go_simp; done) | (go_simp; rfl)); intro g1 hg_ w1 hb_ hB_; have K1 := Aside0.mk hb_; have HG1 := Aside0.mk hg_; have HB1 := Aside0.mk hB_; clear hg_ hb_ hB_)
    | ((with_reducible refine gate_dst (N := 2) rfl ?_); refine box_event ?hg (N := 2) ?hd (cs := #[.int .i64 0, .int .u64 0, .int .i64 0]) (t := 70) ?hr ?_; (case hd => rfl); (case hg => rfl); (case hr => first | (go_simp; done) | (go_simp; rfl)); intro g2 hg_ w2 hb_ hB_; have T0 := Aside0.mk (St.new HI.out HB.out HG1.out K1.out HB1.out hg_ hb_ hB_); clear hg_ hb_ hB_ HI HB HG1 K1 HB1)
    | (refine wpList_load_row rfl 65 (.tmp 1) rfl g1 rfl 65 #[.pointer (some ⟨g, 0, none⟩)] (0, 0) _ T0.out.K1 Try.underlying65 rfl size65 ?_)
    | (go_at_call 27; refine (small_bad w0 _ g s p (by omega) (by have := HH.out; omega) T0.out.I T0.out.B).mono ?_; rintro e w' ⟨rfl, hb, hk⟩; have RB := Aside0.mk hb; have RK := Aside0.mk (T0.out.K.trans hk (.inl rfl)); clear hb hk))
  exact ⟨rfl, rfl, RB.out, RK.out⟩
set_option maxRecDepth 20000 in
set_option maxHeartbeats 1000000 in
theorem update_bad1 (w0 w : World) (g : Nat) (s : ByteArray) (p : Nat) (hs : s.size < 4611686018427387904) (h0 : p + 1 ≤ s.size) (h : s.size < p + 9) (hI : IsS63 w0 w g s p) (hB : Below w0.heap.size w0 w) :
    Calls Try.prog 30 #[.agg #[.pointer (some ⟨g, 0, none⟩)]] w fun e w' => e = bad 10 ∧ Below w0.heap.size w0 w' ∧ KeepBut w w' g none := by
  have HI := Aside0.mk hI
  have HB := Aside0.mk hB
  have HH := Aside0.mk h
  have size65 := size65
  clear hI hB h
  go_enter Try.func30, Try.ntmps30
  go_wp2_with (first
    | ((with_reducible refine gate_dst (N := 1) rfl ?_); refine box_event ?hg (N := 1) ?hd (cs := #[.pointer (some ⟨g, 0, none⟩)]) (t := 65) ?hr ?_; (case hd => rfl); (case hg => rfl); (case hr => first | (go_simp; done) | (go_simp; rfl)); intro g1 hg_ w1 hb_ hB_; have K1 := Aside0.mk hb_; have HG1 := Aside0.mk hg_; have HB1 := Aside0.mk hB_; clear hg_ hb_ hB_)
    | ((with_reducible refine gate_dst (N := 2) rfl ?_); refine box_event ?hg (N := 2) ?hd (cs := #[.int .i64 0, .int .u64 0, .int .i64 0]) (t := 70) ?hr ?_; (case hd => rfl); (case hg => rfl); (case hr => first | (go_simp; done) | (go_simp; rfl)); intro g2 hg_ w2 hb_ hB_; have T0 := Aside0.mk (St.new HI.out HB.out HG1.out K1.out HB1.out hg_ hb_ hB_); clear hg_ hb_ hB_ HI HB HG1 K1 HB1)
    | (refine wpList_load_row rfl 65 (.tmp 1) rfl g1 rfl 65 #[.pointer (some ⟨g, 0, none⟩)] (0, 0) _ T0.out.K1 Try.underlying65 rfl size65 ?_)
    | (go_at_call 27; refine (small_ok w0 _ g s p hs (by have := HH.out; omega) T0.out.I T0.out.B).mono ?_; rintro e wb0 ⟨rfl, hi, hb, hk⟩; have S0 := Aside0.mk (T0.out.call hi hb hk); have z := S0.out.c2 0; have zf := S0.out.f2 0; clear hi hb hk T0)
    | (refine wpList_load_row rfl 65 (.tmp 1) rfl g1 rfl 65 #[.pointer (some ⟨g, 0, none⟩)] (0, 0) _ (S0.out.put 0 (.int .i64 (rdv s p 1))).K1 Try.underlying65 rfl size65 ?_; have T1 := Aside0.mk (S0.out.put 0 (.int .i64 (rdv s p 1))); generalize World.setCell _ _ _ = wa1 at T1 ⊢; clear S0 z)
    | (go_at_call 28; refine (large_bad w0 _ g s (p + 1) (by omega) (by have := HH.out; omega) T1.out.I T1.out.B).mono ?_; rintro e w' ⟨rfl, hb, hk⟩; have RB := Aside0.mk hb; have RK := Aside0.mk (T1.out.K.trans hk (.inl rfl)); clear hb hk))
  exact ⟨rfl, rfl, RB.out, RK.out⟩
set_option maxRecDepth 20000 in
set_option maxHeartbeats 1000000 in
theorem update_bad2 (w0 w : World) (g : Nat) (s : ByteArray) (p : Nat) (hs : s.size < 4611686018427387904) (h0 : p + 9 ≤ s.size) (h : s.size < p + 10) (hI : IsS63 w0 w g s p) (hB : Below w0.heap.size w0 w) :
    Calls Try.prog 30 #[.agg #[.pointer (some ⟨g, 0, none⟩)]] w fun e w' => e = bad 10 ∧ Below w0.heap.size w0 w' ∧ KeepBut w w' g none := by
  have HI := Aside0.mk hI
  have HB := Aside0.mk hB
  have HH := Aside0.mk h
  have size65 := size65
  clear hI hB h
  go_enter Try.func30, Try.ntmps30
  go_wp2_with (first
    | ((with_reducible refine gate_dst (N := 1) rfl ?_); refine box_event ?hg (N := 1) ?hd (cs := #[.pointer (some ⟨g, 0, none⟩)]) (t := 65) ?hr ?_; (case hd => rfl); (case hg => rfl); (case hr => first | (go_simp; done) | (go_simp; rfl)); intro g1 hg_ w1 hb_ hB_; have K1 := Aside0.mk hb_; have HG1 := Aside0.mk hg_; have HB1 := Aside0.mk hB_; clear hg_ hb_ hB_)
    | ((with_reducible refine gate_dst (N := 2) rfl ?_); refine box_event ?hg (N := 2) ?hd (cs := #[.int .i64 0, .int .u64 0, .int .i64 0]) (t := 70) ?hr ?_; (case hd => rfl); (case hg => rfl); (case hr => first | (go_simp; done) | (go_simp; rfl)); intro g2 hg_ w2 hb_ hB_; have T0 := Aside0.mk (St.new HI.out HB.out HG1.out K1.out HB1.out hg_ hb_ hB_); clear hg_ hb_ hB_ HI HB HG1 K1 HB1)
    | (refine wpList_load_row rfl 65 (.tmp 1) rfl g1 rfl 65 #[.pointer (some ⟨g, 0, none⟩)] (0, 0) _ T0.out.K1 Try.underlying65 rfl size65 ?_)
    | (go_at_call 27; refine (small_ok w0 _ g s p hs (by have := HH.out; omega) T0.out.I T0.out.B).mono ?_; rintro e wb0 ⟨rfl, hi, hb, hk⟩; have S0 := Aside0.mk (T0.out.call hi hb hk); have z := S0.out.c2 0; have zf := S0.out.f2 0; clear hi hb hk T0)
    | (refine wpList_load_row rfl 65 (.tmp 1) rfl g1 rfl 65 #[.pointer (some ⟨g, 0, none⟩)] (0, 0) _ (S0.out.put 0 (.int .i64 (rdv s p 1))).K1 Try.underlying65 rfl size65 ?_; have T1 := Aside0.mk (S0.out.put 0 (.int .i64 (rdv s p 1))); generalize World.setCell _ _ _ = wa1 at T1 ⊢; clear S0 z)
    | (go_at_call 28; refine (large_ok w0 _ g s (p + 1) hs (by have := HH.out; omega) T1.out.I T1.out.B).mono ?_; rintro e wb1 ⟨rfl, hi, hb, hk⟩; have S1 := Aside0.mk (T1.out.call hi hb hk); have z := S1.out.c2 1; have zf := S1.out.f2 1; clear hi hb hk T1)
    | (refine wpList_load_row rfl 65 (.tmp 1) rfl g1 rfl 65 #[.pointer (some ⟨g, 0, none⟩)] (0, 0) _ (S1.out.put 1 (.int .u64 (rdv s (p + 1) 8))).K1 Try.underlying65 rfl size65 ?_; have T2 := Aside0.mk (S1.out.put 1 (.int .u64 (rdv s (p + 1) 8))); generalize World.setCell _ _ _ = wa2 at T2 ⊢; clear S1 z)
    | (go_at_call 27; refine (small_bad w0 _ g s (p + 9) (by omega) (by have := HH.out; omega) T2.out.I T2.out.B).mono ?_; rintro e w' ⟨rfl, hb, hk⟩; have RB := Aside0.mk hb; have RK := Aside0.mk (T2.out.K.trans hk (.inl rfl)); clear hb hk))
  exact ⟨rfl, rfl, RB.out, RK.out⟩
set_option maxRecDepth 20000 in
set_option maxHeartbeats 1000000 in
theorem view_ok (w0 w : World) (g : Nat) (s : ByteArray) (p : Nat) (hs : s.size < 4611686018427387904) (h : p + 16 ≤ s.size) (hI : IsS63 w0 w g s p) (hB : Below w0.heap.size w0 w) :
    Calls Try.prog 31 #[.agg #[.pointer (some ⟨g, 0, none⟩)]] w fun e w' => e = .returned (.agg #[.int .u64 (rdv s p 8), .int .u64 (rdv s (p + 8) 8)]) ∧ IsS63 w0 w' g s ((p + 16 : Nat) : Int) ∧ Below w0.heap.size w0 w' ∧ KeepBut w w' g none := by
  have HI := Aside0.mk hI
  have HB := Aside0.mk hB
  have HH := Aside0.mk h
  have size65 := size65
  clear hI hB h
  go_enter Try.func31, Try.ntmps31
  go_wp2_with (first
    | ((with_reducible refine gate_dst (N := 1) rfl ?_); refine box_event ?hg (N := 1) ?hd (cs := #[.pointer (some ⟨g, 0, none⟩)]) (t := 65) ?hr ?_; (case hd => rfl); (case hg => rfl); (case hr => first | (go_simp; done) | (go_simp; rfl)); intro g1 hg_ w1 hb_ hB_; have K1 := Aside0.mk hb_; have HG1 := Aside0.mk hg_; have HB1 := Aside0.mk hB_; clear hg_ hb_ hB_)
    | ((with_reducible refine gate_dst (N := 2) rfl ?_); refine box_event ?hg (N := 2) ?hd (cs := #[.int .u64 0, .int .u64 0]) (t := 27) ?hr ?_; (case hd => rfl); (case hg => rfl); (case hr => first | (go_simp; done) | (go_simp; rfl)); intro g2 hg_ w2 hb_ hB_; have T0 := Aside0.mk (St.new HI.out HB.out HG1.out K1.out HB1.out hg_ hb_ hB_); clear hg_ hb_ hB_ HI HB HG1 K1 HB1)
    | (refine wpList_load_row rfl 65 (.tmp 1) rfl g1 rfl 65 #[.pointer (some ⟨g, 0, none⟩)] (0, 0) _ T0.out.K1 Try.underlying65 rfl size65 ?_)
    | (go_at_call 28; refine (large_ok w0 _ g s p hs (by have := HH.out; omega) T0.out.I T0.out.B).mono ?_; rintro e wb0 ⟨rfl, hi, hb, hk⟩; have S0 := Aside0.mk (T0.out.call hi hb hk); clear hi hb hk T0)
    | (refine wpList_load_row rfl 65 (.tmp 1) rfl g1 rfl 65 #[.pointer (some ⟨g, 0, none⟩)] (0, 0) _ S0.out.K1 Try.underlying65 rfl size65 ?_; have T1 := S0; clear S0)
    | (go_at_call 28; refine (large_ok w0 _ g s (p + 8) hs (by have := HH.out; omega) T1.out.I T1.out.B).mono ?_; rintro e wb1 ⟨rfl, hi, hb, hk⟩; have S1 := Aside0.mk (T1.out.call hi hb hk); clear hi hb hk T1)
    | ((with_reducible refine gate_store (t := 27) (p := 2) rfl ?_); go_loud (refine wpList_store_row rfl 27 (.tmp 2) (.tmp 9) rfl g2 #[.int .u64 (rdv s p 8), .int .u64 (rdv s (p + 8) 8)] rfl rfl 27 #[.int .u64 0, .int .u64 0] S1.out.K2 size27 rfl one2 ?_); have TZ := S1; have RK := Aside0.mk (setRow_heap wb1 g2 #[.int .u64 0, .int .u64 0] #[.int .u64 (rdv s p 8), .int .u64 (rdv s (p + 8) 8)] 27 (0, 0) TZ.out.K2); have RB := Aside0.mk (below_setRow TZ.out.B (Nat.le_trans TZ.out.l0 TZ.out.l2) #[.int .u64 (rdv s p 8), .int .u64 (rdv s (p + 8) 8)]); have RH := Aside0.mk (keep_row TZ.out.K TZ.out.l2 #[.int .u64 (rdv s p 8), .int .u64 (rdv s (p + 8) 8)]); have RI : Aside0 (IsS63 w0 (World.setRow wb1 g2 #[.int .u64 (rdv s p 8), .int .u64 (rdv s (p + 8) 8)]) g s ((p + 16 : Nat) : Int)) := ⟨(setRow_other wb1 g2 g _ (Ne.symm TZ.out.n2)).trans TZ.out.I.1, TZ.out.I.2⟩; generalize World.setRow wb1 g2 _ = w9 at RK RB RH RI ⊢; clear TZ))
  refine bodyPost_ret (v := .agg #[.int .u64 (rdv s p 8), .int .u64 (rdv s (p + 8) 8)]) (results_cell_row (fn := Try.f31) (p := 2) (ty := 27) (by kernel_rfl) _ _ g2 27 #[.int .u64 (rdv s p 8), .int .u64 (rdv s (p + 8) 8)] (0, 0) _ rfl RK.out Try.underlying27 rfl size27) rfl ?_
  exact ⟨rfl, RI.out, RB.out, RH.out⟩
set_option maxRecDepth 20000 in
set_option maxHeartbeats 1000000 in
theorem view_bad0 (w0 w : World) (g : Nat) (s : ByteArray) (p : Nat) (hs : s.size < 4611686018427387904) (h0 : p + 0 ≤ s.size) (h : s.size < p + 8) (hI : IsS63 w0 w g s p) (hB : Below w0.heap.size w0 w) :
    Calls Try.prog 31 #[.agg #[.pointer (some ⟨g, 0, none⟩)]] w fun e w' => e = bad 10 ∧ Below w0.heap.size w0 w' ∧ KeepBut w w' g none := by
  have HI := Aside0.mk hI
  have HB := Aside0.mk hB
  have HH := Aside0.mk h
  have size65 := size65
  clear hI hB h
  go_enter Try.func31, Try.ntmps31
  go_wp2_with (first
    | ((with_reducible refine gate_dst (N := 1) rfl ?_); refine box_event ?hg (N := 1) ?hd (cs := #[.pointer (some ⟨g, 0, none⟩)]) (t := 65) ?hr ?_; (case hd => rfl); (case hg => rfl); (case hr => first | (go_simp; done) | (go_simp; rfl)); intro g1 hg_ w1 hb_ hB_; have K1 := Aside0.mk hb_; have HG1 := Aside0.mk hg_; have HB1 := Aside0.mk hB_; clear hg_ hb_ hB_)
    | ((with_reducible refine gate_dst (N := 2) rfl ?_); refine box_event ?hg (N := 2) ?hd (cs := #[.int .u64 0, .int .u64 0]) (t := 27) ?hr ?_; (case hd => rfl); (case hg => rfl); (case hr => first | (go_simp; done) | (go_simp; rfl)); intro g2 hg_ w2 hb_ hB_; have T0 := Aside0.mk (St.new HI.out HB.out HG1.out K1.out HB1.out hg_ hb_ hB_); clear hg_ hb_ hB_ HI HB HG1 K1 HB1)
    | (refine wpList_load_row rfl 65 (.tmp 1) rfl g1 rfl 65 #[.pointer (some ⟨g, 0, none⟩)] (0, 0) _ T0.out.K1 Try.underlying65 rfl size65 ?_)
    | (go_at_call 28; refine (large_bad w0 _ g s p (by omega) (by have := HH.out; omega) T0.out.I T0.out.B).mono ?_; rintro e w' ⟨rfl, hb, hk⟩; have RB := Aside0.mk hb; have RK := Aside0.mk (T0.out.K.trans hk (.inl rfl)); clear hb hk))
  exact ⟨rfl, rfl, RB.out, RK.out⟩
set_option maxRecDepth 20000 in
set_option maxHeartbeats 1000000 in
theorem view_bad1 (w0 w : World) (g : Nat) (s : ByteArray) (p : Nat) (hs : s.size < 4611686018427387904) (h0 : p + 8 ≤ s.size) (h : s.size < p + 16) (hI : IsS63 w0 w g s p) (hB : Below w0.heap.size w0 w) :
    Calls Try.prog 31 #[.agg #[.pointer (some ⟨g, 0, none⟩)]] w fun e w' => e = bad 10 ∧ Below w0.heap.size w0 w' ∧ KeepBut w w' g none := by
  have HI := Aside0.mk hI
  have HB := Aside0.mk hB
  have HH := Aside0.mk h
  have size65 := size65
  clear hI hB h
  go_enter Try.func31, Try.ntmps31
  go_wp2_with (first
    | ((with_reducible refine gate_dst (N := 1) rfl ?_); refine box_event ?hg (N := 1) ?hd (cs := #[.pointer (some ⟨g, 0, none⟩)]) (t := 65) ?hr ?_; (case hd => rfl); (case hg => rfl); (case hr => first | (go_simp; done) | (go_simp; rfl)); intro g1 hg_ w1 hb_ hB_; have K1 := Aside0.mk hb_; have HG1 := Aside0.mk hg_; have HB1 := Aside0.mk hB_; clear hg_ hb_ hB_)
    | ((with_reducible refine gate_dst (N := 2) rfl ?_); refine box_event ?hg (N := 2) ?hd (cs := #[.int .u64 0, .int .u64 0]) (t := 27) ?hr ?_; (case hd => rfl); (case hg => rfl); (case hr => first | (go_simp; done) | (go_simp; rfl)); intro g2 hg_ w2 hb_ hB_; have T0 := Aside0.mk (St.new HI.out HB.out HG1.out K1.out HB1.out hg_ hb_ hB_); clear hg_ hb_ hB_ HI HB HG1 K1 HB1)
    | (refine wpList_load_row rfl 65 (.tmp 1) rfl g1 rfl 65 #[.pointer (some ⟨g, 0, none⟩)] (0, 0) _ T0.out.K1 Try.underlying65 rfl size65 ?_)
    | (go_at_call 28; refine (large_ok w0 _ g s p hs (by have := HH.out; omega) T0.out.I T0.out.B).mono ?_; rintro e wb0 ⟨rfl, hi, hb, hk⟩; have S0 := Aside0.mk (T0.out.call hi hb hk); clear hi hb hk T0)
    | (refine wpList_load_row rfl 65 (.tmp 1) rfl g1 rfl 65 #[.pointer (some ⟨g, 0, none⟩)] (0, 0) _ S0.out.K1 Try.underlying65 rfl size65 ?_; have T1 := S0; clear S0)
    | (go_at_call 28; refine (large_bad w0 _ g s (p + 8) (by omega) (by have := HH.out; omega) T1.out.I T1.out.B).mono ?_; rintro e w' ⟨rfl, hb, hk⟩; have RB := Aside0.mk hb; have RK := Aside0.mk (T1.out.K.trans hk (.inl rfl)); clear hb hk))
  exact ⟨rfl, rfl, RB.out, RK.out⟩
end Go.Proofs.Ytondgoabnmgcaaa.B
end
section
/- By hand: a piece of the reader. -/
namespace Go.Proofs.Ytondgoabnmgcaaa.B
open Go.RowKit Go.Proofs.YtondgoabnmgcaaaW.PrintWords Go.Proofs.YtondgoabnmgcaaaW.PrintLast Go.Proofs.YtondgoabnmgcaaaW.PrintMore
open Go.Proofs.YtondgoabnmgcaaaO.B (IsS63)
open Go.Proofs.YtondgoabnmgcaaaO.R (rdv rdv_range text_ok text_short text_wide text_few)
set_option linter.unusedSimpArgs false
set_option linter.unusedVariables false

/-- why no text of at most 64 bytes is read at p; 0: one is -/
def textE (s : ByteArray) (p : Nat) : Int := if s.size < p + 2 then 10 else if 64 < rdv s p 2 then 12 else if s.size < p + 2 + (rdv s p 2).toNat then 10 else 0
def textN (s : ByteArray) (p : Nat) : Nat := (rdv s p 2).toNat
def textS (s : ByteArray) (p : Nat) : ByteArray := s.extract (p + 2) (p + 2 + textN s p)
theorem text_good (w0 w : World) (g : Nat) (s : ByteArray) (p : Nat) (hI : IsS63 w0 w g s p) (hB : Below w0.heap.size w0 w) (hs : s.size < 4611686018427387904) (h : textE s p = 0) :
    Calls Try.prog 76 #[.pointer (some ⟨g, 0, none⟩), .int .i64 64] w fun e w' => e = .returned (.tuple #[.string (textS s p), .int .i64 0]) ∧ IsS63 w0 w' g s ((p + 2 + textN s p : Nat) : Int) ∧ Below w0.heap.size w0 w' ∧ KeepBut w w' g none := by
  unfold textE at h
  have hr := (rdv_range s 2 p).1
  by_cases h1 : s.size < p + 2
  · rw [if_pos h1] at h; cases h
  rw [if_neg h1] at h
  by_cases h2 : 64 < rdv s p 2
  · rw [if_pos h2] at h; cases h
  rw [if_neg h2] at h
  by_cases h3 : s.size < p + 2 + (rdv s p 2).toNat
  · rw [if_pos h3] at h; cases h
  have := text_ok w0 w g s p 64 hI hB hs (by omega) h2 (by omega)
  have e1 : ((p : Int) + 2).toNat = p + 2 := by omega
  have e2 : ((p : Int) + 2 + rdv s p 2).toNat = p + 2 + textN s p := by unfold textN; omega
  have e3 : (p : Int) + 2 + rdv s p 2 = ((p + 2 + textN s p : Nat) : Int) := by unfold textN; omega
  rw [e1, e2, e3] at this
  exact this
theorem text_ill (w0 w : World) (g : Nat) (s : ByteArray) (p : Nat) (hI : IsS63 w0 w g s p) (hB : Below w0.heap.size w0 w) (hs : s.size < 4611686018427387904) (hp : p ≤ s.size) (h : ¬ textE s p = 0) :
    Calls Try.prog 76 #[.pointer (some ⟨g, 0, none⟩), .int .i64 64] w fun e w' => e = .returned (.tuple #[.string ⟨#[]⟩, .int .i64 (textE s p)]) ∧ IsS63 w0 w' g s p ∧ Below w0.heap.size w0 w' ∧ KeepBut w w' g none := by
  unfold textE at h ⊢
  have hr := (rdv_range s 2 p).1
  by_cases h1 : s.size < p + 2
  · rw [if_pos h1]
    exact text_short w0 w g s p 64 hI hB hp h1
  rw [if_neg h1] at h ⊢
  by_cases h2 : 64 < rdv s p 2
  · rw [if_pos h2]
    exact text_wide w0 w g s p 64 hI hB hs (by omega) h2
  rw [if_neg h2] at h ⊢
  by_cases h3 : s.size < p + 2 + (rdv s p 2).toNat
  · rw [if_pos h3]
    exact text_few w0 w g s p 64 hI hB hs (by omega) h2 (by omega)
  · rw [if_neg h3] at h; exact absurd rfl h
end Go.Proofs.Ytondgoabnmgcaaa.B
end
section
/- By hand: a piece of the reader. -/
namespace Go.Proofs.Ytondgoabnmgcaaa.B
open Go.RowKit Go.Proofs.YtondgoabnmgcaaaW.PrintWords Go.Proofs.YtondgoabnmgcaaaW.PrintLast Go.Proofs.YtondgoabnmgcaaaW.PrintMore
open Go.Proofs.YtondgoabnmgcaaaO.B (IsS63)
open Go.Proofs.YtondgoabnmgcaaaO.R (rdv)
set_option linter.unusedSimpArgs false
set_option linter.unusedVariables false
theorem size53 : (Try.prog.info? 53).map (·.size) = some 4 := by kernel_rfl
theorem one4 {x y z : Int} {k l m : IntKind} {u : ByteArray} : (#[Value.int k x, Value.int l y, Value.int m z, Value.string u] : Array Value).all (·.oneCell') = true := by simp [Value.oneCell']

set_option maxRecDepth 20000 in
set_option maxHeartbeats 1000000 in
theorem piece_ok (w0 w : World) (g : Nat) (s : ByteArray) (p : Nat) (hs : s.size < 4611686018427387904) (h : p + 17 ≤ s.size) (ht : textE s (p + 17) = 0) (hI : IsS63 w0 w g s p) (hB : Below w0.heap.size w0 w) :
    Calls Try.prog 33 #[.agg #[.pointer (some ⟨g, 0, none⟩)]] w fun e w' => e = .returned (.agg #[.int .u64 (rdv s p 8), .int .i64 (rdv s (p + 8) 1), .int .u64 (rdv s (p + 9) 8), .string (textS s (p + 17))]) ∧ IsS63 w0 w' g s ((p + 19 + textN s (p + 17) : Nat) : Int) ∧ Below w0.heap.size w0 w' ∧ KeepBut w w' g none := by
  have HI := Aside0.mk hI
  have HB := Aside0.mk hB
  have HH := Aside0.mk h
  have size65 := size65
  have HT := Aside0.mk ht
  clear ht
  clear hI hB h
  go_enter Try.func33, Try.ntmps33
  go_wp2_with (first
    | ((with_reducible refine gate_dst (N := 1) rfl ?_); refine box_event ?hg (N := 1) ?hd (cs := #[.pointer (some ⟨g, 0, none⟩)]) (t := 65) ?hr ?_; (case hd => rfl); (case hg => rfl); (case hr => first | (go_simp; done) | (go_simp; rfl)); intro g1 hg_ w1 hb_ hB_; have K1 := Aside0.mk hb_; have HG1 := Aside0.mk hg_; have HB1 := Aside0.mk hB_; clear hg_ hb_ hB_)
    | ((with_reducible refine gate_dst (N := 2) rfl ?_); refine box_event ?hg (N := 2) ?hd (cs := #[.int .u64 0, .int .i64 0, .int .u64 0, .string ⟨#[]⟩]) (t := 53) ?hr ?_; (case hd => rfl); (case hg => rfl); (case hr => first | (go_simp; done) | (go_simp; rfl)); intro g2 hg_ w2 hb_ hB_; have T0 := Aside0.mk (St.new HI.out HB.out HG1.out K1.out HB1.out hg_ hb_ hB_); clear hg_ hb_ hB_ HI HB HG1 K1 HB1)
    | (refine wpList_load_row rfl 65 (.tmp 1) rfl g1 rfl 65 #[.pointer (some ⟨g, 0, none⟩)] (0, 0) _ T0.out.K1 Try.underlying65 rfl size65 ?_)
    | (go_at_call 28; refine (large_ok w0 _ g s p hs (by have := HH.out; omega) T0.out.I T0.out.B).mono ?_; rintro e wb0 ⟨rfl, hi, hb, hk⟩; have S0 := Aside0.mk (T0.out.call hi hb hk); have z := S0.out.c2 0; have zf := S0.out.f2 0; clear hi hb hk T0)
    | (refine wpList_load_row rfl 65 (.tmp 1) rfl g1 rfl 65 #[.pointer (some ⟨g, 0, none⟩)] (0, 0) _ (S0.out.put 0 (.int .u64 (rdv s p 8))).K1 Try.underlying65 rfl size65 ?_; have T1 := Aside0.mk (S0.out.put 0 (.int .u64 (rdv s p 8))); generalize World.setCell _ _ _ = wa1 at T1 ⊢; clear S0 z)
    | (go_at_call 27; refine (small_ok w0 _ g s (p + 8) hs (by have := HH.out; omega) T1.out.I T1.out.B).mono ?_; rintro e wb1 ⟨rfl, hi, hb, hk⟩; have S1 := Aside0.mk (T1.out.call hi hb hk); have z := S1.out.c2 1; have zf := S1.out.f2 1; clear hi hb hk T1)
    | (refine wpList_load_row rfl 65 (.tmp 1) rfl g1 rfl 65 #[.pointer (some ⟨g, 0, none⟩)] (0, 0) _ (S1.out.put 1 (.int .i64 (rdv s (p + 8) 1))).K1 Try.underlying65 rfl size65 ?_; have T2 := Aside0.mk (S1.out.put 1 (.int .i64 (rdv s (p + 8) 1))); generalize World.setCell _ _ _ = wa2 at T2 ⊢; clear S1 z)
    | (go_at_call 28; refine (large_ok w0 _ g s (p + 9) hs (by have := HH.out; omega) T2.out.I T2.out.B).mono ?_; rintro e wb2 ⟨rfl, hi, hb, hk⟩; have S2 := Aside0.mk (T2.out.call hi hb hk); have z := S2.out.c2 2; have zf := S2.out.f2 2; have xx := (S2.out.put 2 (.int .u64 (rdv s (p + 9) 8))).c1; clear hi hb hk T2)
    | (go_at_call 76; refine (text_good w0 _ g s (p + 17) (S2.out.put 2 (.int .u64 (rdv s (p + 9) 8))).I (S2.out.put 2 (.int .u64 (rdv s (p + 9) 8))).B hs HT.out).mono ?_; rintro e w3 ⟨rfl, hi, hb, hk⟩; have S3 := Aside0.mk ((S2.out.put 2 (.int .u64 (rdv s (p + 9) 8))).call hi hb hk); clear hi hb hk S2 z zf xx; have z := S3.out.c2 3; have zf := S3.out.f2 3)
    | (go_at_call 25; refine (must_str_ok _ _).mono ?_; rintro e w4 ⟨rfl, rfl⟩)
    | (refine wpList_load_row rfl 53 (.tmp 2) rfl g2 rfl 53 #[.int .u64 (rdv s p 8), .int .i64 (rdv s (p + 8) 1), .int .u64 (rdv s (p + 9) 8), .string (textS s (p + 17))] (0, 0) _ (S3.out.put 3 (.string (textS s (p + 17)))).K2 Try.underlying53 rfl size53 ?_; have TZ : Aside0 (St w0 w _ g s _ g1 g2 #[.int .u64 (rdv s p 8), .int .i64 (rdv s (p + 8) 1), .int .u64 (rdv s (p + 9) 8), .string (textS s (p + 17))] 53) := Aside0.mk (S3.out.put 3 (.string (textS s (p + 17)))); generalize World.setCell _ _ _ = wz at TZ ⊢; clear S3 z zf)
    | ((with_reducible refine gate_store (t := 53) (p := 2) rfl ?_); go_loud (refine wpList_store_row rfl 53 (.tmp 2) (.tmp 22) rfl g2 #[.int .u64 (rdv s p 8), .int .i64 (rdv s (p + 8) 1), .int .u64 (rdv s (p + 9) 8), .string (textS s (p + 17))] rfl rfl 53 #[.int .u64 (rdv s p 8), .int .i64 (rdv s (p + 8) 1), .int .u64 (rdv s (p + 9) 8), .string (textS s (p + 17))] TZ.out.K2 size53 rfl one4 ?_); have RK := Aside0.mk (setRow_heap wz g2 #[.int .u64 (rdv s p 8), .int .i64 (rdv s (p + 8) 1), .int .u64 (rdv s (p + 9) 8), .string (textS s (p + 17))] #[.int .u64 (rdv s p 8), .int .i64 (rdv s (p + 8) 1), .int .u64 (rdv s (p + 9) 8), .string (textS s (p + 17))] 53 (0, 0) TZ.out.K2); have RB := Aside0.mk (below_setRow TZ.out.B (Nat.le_trans TZ.out.l0 TZ.out.l2) #[.int .u64 (rdv s p 8), .int .i64 (rdv s (p + 8) 1), .int .u64 (rdv s (p + 9) 8), .string (textS s (p + 17))]); have RH := Aside0.mk (keep_row TZ.out.K TZ.out.l2 #[.int .u64 (rdv s p 8), .int .i64 (rdv s (p + 8) 1), .int .u64 (rdv s (p + 9) 8), .string (textS s (p + 17))]); have RI : Aside0 (IsS63 w0 (wz.setRow g2 #[.int .u64 (rdv s p 8), .int .i64 (rdv s (p + 8) 1), .int .u64 (rdv s (p + 9) 8), .string (textS s (p + 17))]) g s ((p + 17 + 2 + textN s (p + 17) : Nat) : Int)) := ⟨(setRow_other wz g2 g _ (Ne.symm TZ.out.n2)).trans TZ.out.I.1, TZ.out.I.2⟩; generalize wz.setRow g2 _ = w9 at RK RB RH RI ⊢; clear TZ))
  refine bodyPost_ret (v := .agg #[.int .u64 (rdv s p 8), .int .i64 (rdv s (p + 8) 1), .int .u64 (rdv s (p + 9) 8), .string (textS s (p + 17))]) (results_cell_row (fn := Try.f33) (p := 2) (ty := 53) (by kernel_rfl) _ _ g2 53 #[.int .u64 (rdv s p 8), .int .i64 (rdv s (p + 8) 1), .int .u64 (rdv s (p + 9) 8), .string (textS s (p + 17))] (0, 0) _ rfl RK.out Try.underlying53 rfl size53) rfl ?_
  exact ⟨rfl, RI.out, RB.out, RH.out⟩
set_option maxRecDepth 20000 in
set_option maxHeartbeats 1000000 in
theorem piece_bad0 (w0 w : World) (g : Nat) (s : ByteArray) (p : Nat) (hs : s.size < 4611686018427387904) (h0 : p + 0 ≤ s.size) (h : s.size < p + 8) (hI : IsS63 w0 w g s p) (hB : Below w0.heap.size w0 w) :
    Calls Try.prog 33 #[.agg #[.pointer (some ⟨g, 0, none⟩)]] w fun e w' => e = bad 10 ∧ Below w0.heap.size w0 w' ∧ KeepBut w w' g none := by
  have HI := Aside0.mk hI
  have HB := Aside0.mk hB
  have HH := Aside0.mk h
  have size65 := size65
  clear hI hB h
  go_enter Try.func33, Try.ntmps33
  go_wp2_with (first
    | ((with_reducible refine gate_dst (N := 1) rfl ?_); refine box_event ?hg (N := 1) ?hd (cs := #[.pointer (some ⟨g, 0, none⟩)]) (t := 65) ?hr ?_; (case hd => rfl); (case hg => rfl); (case hr => first | (go_simp; done) | (go_simp; rfl)); intro g1 hg_ w1 hb_ hB_; have K1 := Aside0.mk hb_; have HG1 := Aside0.mk hg_; have HB1 := Aside0.mk hB_; clear hg_ hb_ hB_)
    | ((with_reducible refine gate_dst (N := 2) rfl ?_); refine box_event ?hg (N := 2) ?hd (cs := #[.int .u64 0, .int .i64 0, .int .u64 0, .string ⟨#[]⟩]) (t := 53) ?hr ?_; (case hd => rfl); (case hg => rfl); (case hr => first | (go_simp; done) | (go_simp; rfl)); intro g2 hg_ w2 hb_ hB_; have T0 := Aside0.mk (St.new HI.out HB.out HG1.out K1.out HB1.out hg_ hb_ hB_); clear hg_ hb_ hB_ HI HB HG1 K1 HB1)
    | (refine wpList_load_row rfl 65 (.tmp 1) rfl g1 rfl 65 #[.pointer (some ⟨g, 0, none⟩)] (0, 0) _ T0.out.K1 Try.underlying65 rfl size65 ?_)
    | (go_at_call 28; refine (large_bad w0 _ g s p (by omega) (by have := HH.out; omega) T0.out.I T0.out.B).mono ?_; rintro e w' ⟨rfl, hb, hk⟩; have RB := Aside0.mk hb; have RK := Aside0.mk (T0.out.K.trans hk (.inl rfl)); clear hb hk))
  exact ⟨rfl, rfl, RB.out, RK.out⟩
set_option maxRecDepth 20000 in
set_option maxHeartbeats 1000000 in
theorem piece_bad1 (w0 w : World) (g : Nat) (s : ByteArray) (p : Nat) (hs : s.size < 4611686018427387904) (h0 : p + 8 ≤ s.size) (h : s.size < p + 9) (hI : IsS63 w0 w g s p) (hB : Below w0.heap.size w0 w) :
    Calls Try.prog 33 #[.agg #[.pointer (some ⟨g, 0, none⟩)]] w fun e w' => e = bad 10 ∧ Below w0.heap.size w0 w' ∧ KeepBut w w' g none := by
  have HI := Aside0.mk hI
  have HB := Aside0.mk hB
  have HH := Aside0.mk h
  have size65 := size65
  clear hI hB h
  go_enter Try.func33, Try.ntmps33
  go_wp2_with (first
    | ((with_reducible refine gate_dst (N := 1) rfl ?_); refine box_event ?hg (N := 1) ?hd (cs := #[.pointer (some ⟨g, 0, none⟩)]) (t := 65) ?hr ?_; (case hd => rfl); (case hg => rfl); (case hr => first | (go_simp; done) | (go_simp; rfl)); intro g1 hg_ w1 hb_ hB_; have K1 := Aside0.mk hb_; have HG1 := Aside0.mk hg_; have HB1 := Aside0.mk hB_; clear hg_ hb_ hB_)
    | ((with_reducible refine gate_dst (N := 2) rfl ?_); refine box_event ?hg (N := 2) ?hd (cs := #[.int .u64 0, .int .i64 0, .int .u64 0, .string ⟨#[]⟩]) (t := 53) ?hr ?_; (case hd => rfl); (case hg => rfl); (case hr => first | (go_simp; done) | (go_simp; rfl)); intro g2 hg_ w2 hb_ hB_; have T0 := Aside0.mk (St.new HI.out HB.out HG1.out K1.out HB1.out hg_ hb_ hB_); clear hg_ hb_ hB_ HI HB HG1 K1 HB1)
    | (refine wpList_load_row rfl 65 (.tmp 1) rfl g1 rfl 65 #[.pointer (some ⟨g, 0, none⟩)] (0, 0) _ T0.out.K1 Try.underlying65 rfl size65 ?_)
    | (go_at_call 28; refine (large_ok w0 _ g s p hs (by have := HH.out; omega) T0.out.I T0.out.B).mono ?_; rintro e wb0 ⟨rfl, hi, hb, hk⟩; have S0 := Aside0.mk (T0.out.call hi hb hk); have z := S0.out.c2 0; have zf := S0.out.f2 0; clear hi hb hk T0)
    | (refine wpList_load_row rfl 65 (.tmp 1) rfl g1 rfl 65 #[.pointer (some ⟨g, 0, none⟩)] (0, 0) _ (S0.out.put 0 (.int .u64 (rdv s p 8))).K1 Try.underlying65 rfl size65 ?_; have T1 := Aside0.mk (S0.out.put 0 (.int .u64 (rdv s p 8))); generalize World.setCell _ _ _ = wa1 at T1 ⊢; clear S0 z)
    | (go_at_call 27; refine (small_bad w0 _ g s (p + 8) (by omega) (by have := HH.out; omega) T1.out.I T1.out.B).mono ?_; rintro e w' ⟨rfl, hb, hk⟩; have RB := Aside0.mk hb; have RK := Aside0.mk (T1.out.K.trans hk (.inl rfl)); clear hb hk))
  exact ⟨rfl, rfl, RB.out, RK.out⟩
set_option maxRecDepth 20000 in
set_option maxHeartbeats 1000000 in
theorem piece_bad2 (w0 w : World) (g : Nat) (s : ByteArray) (p : Nat) (hs : s.size < 4611686018427387904) (h0 : p + 9 ≤ s.size) (h : s.size < p + 17) (hI : IsS63 w0 w g s p) (hB : Below w0.heap.size w0 w) :
    Calls Try.prog 33 #[.agg #[.pointer (some ⟨g, 0, none⟩)]] w fun e w' => e = bad 10 ∧ Below w0.heap.size w0 w' ∧ KeepBut w w' g none := by
  have HI := Aside0.mk hI
  have HB := Aside0.mk hB
  have HH := Aside0.mk h
  have size65 := size65
  clear hI hB h
  go_enter Try.func33, Try.ntmps33
  go_wp2_with (first
    | ((with_reducible refine gate_dst (N := 1) rfl ?_); refine box_event ?hg (N := 1) ?hd (cs := #[.pointer (some ⟨g, 0, none⟩)]) (t := 65) ?hr ?_; (case hd => rfl); (case hg => rfl); (case hr => first | (go_simp; done) | (go_simp; rfl)); intro g1 hg_ w1 hb_ hB_; have K1 := Aside0.mk hb_; have HG1 := Aside0.mk hg_; have HB1 := Aside0.mk hB_; clear hg_ hb_ hB_)
    | ((with_reducible refine gate_dst (N := 2) rfl ?_); refine box_event ?hg (N := 2) ?hd (cs := #[.int .u64 0, .int .i64 0, .int .u64 0, .string ⟨#[]⟩]) (t := 53) ?hr ?_; (case hd => rfl); (case hg => rfl); (case hr => first | (go_simp; done) | (go_simp; rfl)); intro g2 hg_ w2 hb_ hB_; have T0 := Aside0.mk (St.new HI.out HB.out HG1.out K1.out HB1.out hg_ hb_ hB_); clear hg_ hb_ hB_ HI HB HG1 K1 HB1)
    | (refine wpList_load_row rfl 65 (.tmp 1) rfl g1 rfl 65 #[.pointer (some ⟨g, 0, none⟩)] (0, 0) _ T0.out.K1 Try.underlying65 rfl size65 ?_)
    | (go_at_call 28; refine (large_ok w0 _ g s p hs (by have := HH.out; omega) T0.out.I T0.out.B).mono ?_; rintro e wb0 ⟨rfl, hi, hb, hk⟩; have S0 := Aside0.mk (T0.out.call hi hb hk); have z := S0.out.c2 0; have zf := S0.out.f2 0; clear hi hb hk T0)
    | (refine wpList_load_row rfl 65 (.tmp 1) rfl g1 rfl 65 #[.pointer (some ⟨g, 0, none⟩)] (0, 0) _ (S0.out.put 0 (.int .u64 (rdv s p 8))).K1 Try.underlying65 rfl size65 ?_; have T1 := Aside0.mk (S0.out.put 0 (.int .u64 (rdv s p 8))); generalize World.setCell _ _ _ = wa1 at T1 ⊢; clear S0 z)
    | (go_at_call 27; refine (small_ok w0 _ g s (p + 8) hs (by have := HH.out; omega) T1.out.I T1.out.B).mono ?_; rintro e wb1 ⟨rfl, hi, hb, hk⟩; have S1 := Aside0.mk (T1.out.call hi hb hk); have z := S1.out.c2 1; have zf := S1.out.f2 1; clear hi hb hk T1)
    | (refine wpList_load_row rfl 65 (.tmp 1) rfl g1 rfl 65 #[.pointer (some ⟨g, 0, none⟩)] (0, 0) _ (S1.out.put 1 (.int .i64 (rdv s (p + 8) 1))).K1 Try.underlying65 rfl size65 ?_; have T2 := Aside0.mk (S1.out.put 1 (.int .i64 (rdv s (p + 8) 1))); generalize World.setCell _ _ _ = wa2 at T2 ⊢; clear S1 z)
    | (go_at_call 28; refine (large_bad w0 _ g s (p + 9) (by omega) (by have := HH.out; omega) T2.out.I T2.out.B).mono ?_; rintro e w' ⟨rfl, hb, hk⟩; have RB := Aside0.mk hb; have RK := Aside0.mk (T2.out.K.trans hk (.inl rfl)); clear hb hk))
  exact ⟨rfl, rfl, RB.out, RK.out⟩
set_option maxRecDepth 20000 in
set_option maxHeartbeats 1000000 in
theorem piece_bad3 (w0 w : World) (g : Nat) (s : ByteArray) (p : Nat) (hs : s.size < 4611686018427387904) (h : p + 17 ≤ s.size) (ht : ¬ textE s (p + 17) = 0) (hI : IsS63 w0 w g s p) (hB : Below w0.heap.size w0 w) :
    Calls Try.prog 33 #[.agg #[.pointer (some ⟨g, 0, none⟩)]] w fun e w' => e = bad (textE s (p + 17)) ∧ Below w0.heap.size w0 w' ∧ KeepBut w w' g none := by
  have HI := Aside0.mk hI
  have HB := Aside0.mk hB
  have HH := Aside0.mk h
  have size65 := size65
  have HT := Aside0.mk ht
  clear ht
  clear hI hB h
  go_enter Try.func33, Try.ntmps33
  go_wp2_with (first
    | ((with_reducible refine gate_dst (N := 1) rfl ?_); refine box_event ?hg (N := 1) ?hd (cs := #[.pointer (some ⟨g, 0, none⟩)]) (t := 65) ?hr ?_; (case hd => rfl); (case hg => rfl); (case hr => first | (go_simp; done) | (go_simp; rfl)); intro g1 hg_ w1 hb_ hB_; have K1 := Aside0.mk hb_; have HG1 := Aside0.mk hg_; have HB1 := Aside0.mk hB_; clear hg_ hb_ hB_)
    | ((with_reducible refine gate_dst (N := 2) rfl ?_); refine box_event ?hg (N := 2) ?hd (cs := #[.int .u64 0, .int .i64 0, .int .u64 0, .string ⟨#[]⟩]) (t := 53) ?hr ?_; (case hd => rfl); (case hg => rfl); (case hr => first | (go_simp; done) | (go_simp; rfl)); intro g2 hg_ w2 hb_ hB_; have T0 := Aside0.mk (St.new HI.out HB.out HG1.out K1.out HB1.out hg_ hb_ hB_); clear hg_ hb_ hB_ HI HB HG1 K1 HB1)
    | (refine wpList_load_row rfl 65 (.tmp 1) rfl g1 rfl 65 #[.pointer (some ⟨g, 0, none⟩)] (0, 0) _ T0.out.K1 Try.underlying65 rfl size65 ?_)
    | (go_at_call 28; refine (large_ok w0 _ g s p hs (by have := HH.out; omega) T0.out.I T0.out.B).mono ?_; rintro e wb0 ⟨rfl, hi, hb, hk⟩; have S0 := Aside0.mk (T0.out.call hi hb hk); have z := S0.out.c2 0; have zf := S0.out.f2 0; clear hi hb hk T0)
    | (refine wpList_load_row rfl 65 (.tmp 1) rfl g1 rfl 65 #[.pointer (some ⟨g, 0, none⟩)] (0, 0) _ (S0.out.put 0 (.int .u64 (rdv s p 8))).K1 Try.underlying65 rfl size65 ?_; have T1 := Aside0.mk (S0.out.put 0 (.int .u64 (rdv s p 8))); generalize World.setCell _ _ _ = wa1 at T1 ⊢; clear S0 z)
    | (go_at_call 27; refine (small_ok w0 _ g s (p + 8) hs (by have := HH.out; omega) T1.out.I T1.out.B).mono ?_; rintro e wb1 ⟨rfl, hi, hb, hk⟩; have S1 := Aside0.mk (T1.out.call hi hb hk); have z := S1.out.c2 1; have zf := S1.out.f2 1; clear hi hb hk T1)
    | (refine wpList_load_row rfl 65 (.tmp 1) rfl g1 rfl 65 #[.pointer (some ⟨g, 0, none⟩)] (0, 0) _ (S1.out.put 1 (.int .i64 (rdv s (p + 8) 1))).K1 Try.underlying65 rfl size65 ?_; have T2 := Aside0.mk (S1.out.put 1 (.int .i64 (rdv s (p + 8) 1))); generalize World.setCell _ _ _ = wa2 at T2 ⊢; clear S1 z)
    | (go_at_call 28; refine (large_ok w0 _ g s (p + 9) hs (by have := HH.out; omega) T2.out.I T2.out.B).mono ?_; rintro e wb2 ⟨rfl, hi, hb, hk⟩; have S2 := Aside0.mk (T2.out.call hi hb hk); have z := S2.out.c2 2; have zf := S2.out.f2 2; have xx := (S2.out.put 2 (.int .u64 (rdv s (p + 9) 8))).c1; clear hi hb hk T2)
    | (go_at_call 76; refine (text_ill w0 _ g s (p + 17) (S2.out.put 2 (.int .u64 (rdv s (p + 9) 8))).I (S2.out.put 2 (.int .u64 (rdv s (p + 9) 8))).B hs HH.out HT.out).mono ?_; rintro e w3 ⟨rfl, hi, hb, hk⟩; have RB := Aside0.mk hb; have RK := Aside0.mk ((S2.out.put 2 (.int .u64 (rdv s (p + 9) 8))).K.trans hk (.inl rfl)); clear hi hb hk S2 z zf xx)
    | (go_at_call 25; refine (must_str_bad _ _ HT.out _).mono ?_; rintro e w4 ⟨rfl, rfl⟩))
  exact ⟨rfl, rfl, RB.out, RK.out⟩
end Go.Proofs.Ytondgoabnmgcaaa.B
end
section
/- By hand: letter's list of updates, of pieces, of spans (printed by list.py). -/
namespace Go.Proofs.Ytondgoabnmgcaaa.B
open Go.RowKit Go.Proofs.YtondgoabnmgcaaaW.PrintWords Go.Proofs.YtondgoabnmgcaaaW.PrintLast Go.Proofs.YtondgoabnmgcaaaW.PrintMore
open Go.Proofs.YtondgoabnmgcaaaO.B (IsS63)
open Go.Proofs.YtondgoabnmgcaaaO.R (rdv rdv_range)
set_option linter.unusedSimpArgs false
set_option linter.unusedVariables false
/-- an item at p, and where the next one begins; or the error -/
def itU (s : ByteArray) (p : Nat) : Except Int (S70 × Nat) := if s.size < p + 10 then .error 10 else .ok (⟨rdv s p 1, rdv s (p + 1) 8, rdv s (p + 9) 1⟩, p + 10)
def itX (s : ByteArray) (p : Nat) : Except Int (S77 × Nat) := if s.size < p + 16 then .error 10 else .ok (⟨rdv s p 8, rdv s (p + 8) 8⟩, p + 16)
def itP (s : ByteArray) (p : Nat) : Except Int (S53 × Nat) :=
  if s.size < p + 17 then .error 10 else if textE s (p + 17) = 0 then .ok (⟨rdv s p 8, ⟨rdv s (p + 8) 1, rdv s (p + 9) 8, textS s (p + 17)⟩⟩, p + 19 + textN s (p + 17)) else .error (textE s (p + 17))
/-- so many items, one behind the other -/
def runI {α : Type} (it : Nat → Except Int (α × Nat)) : Nat → Nat → List α → Except Int (List α × Nat)
  | 0, p, acc => .ok (acc, p)
  | n + 1, p, acc => match it p with
    | .error e => .error e
    | .ok (x, q) => runI it n q (acc ++ [x])
/-- how many, and they -/
def listI {α : Type} (s : ByteArray) (it : Nat → Except Int (α × Nat)) (most : Int) (p : Nat) : Except Int (List α × Nat) :=
  if s.size < p + 1 then .error 10 else if most < rdv s p 1 then .error 1 else runI it (rdv s p 1).toNat (p + 1) []
theorem textE_ok {s : ByteArray} {p : Nat} (h : textE s p = 0) : p + 2 + textN s p ≤ s.size := by
  unfold textE at h
  by_cases h1 : s.size < p + 2
  · rw [if_pos h1] at h; cases h
  rw [if_neg h1] at h
  by_cases h2 : 64 < rdv s p 2
  · rw [if_pos h2] at h; cases h
  rw [if_neg h2] at h
  by_cases h3 : s.size < p + 2 + (rdv s p 2).toNat
  · rw [if_pos h3] at h; cases h
  · unfold textN; omega
section
variable (w0 w : World) (g : Nat) (s : ByteArray) (p q : Nat) (hs : s.size < 4611686018427387904) (hI : IsS63 w0 w g s p) (hB : Below w0.heap.size w0 w)
include hs hI hB
theorem itU_ok (x : S70) (h : itU s p = .ok (x, q)) : Calls Try.prog 30 #[.agg #[.pointer (some ⟨g, 0, none⟩)]] w fun e w' => e = .returned (.agg #[.int .i64 x.f0, .int .u64 x.f1, .int .i64 x.f2]) ∧ IsS63 w0 w' g s (q : Int) ∧ Below w0.heap.size w0 w' ∧ KeepBut w w' g none := by
  unfold itU at h
  by_cases h1 : s.size < p + 10
  · rw [if_pos h1] at h; cases h
  rw [if_neg h1] at h
  injection h with h
  injection h with e1 e2
  subst e1 e2
  exact update_ok w0 w g s p hs (by omega) hI hB
theorem itU_bad (er : Int) (hp : p ≤ s.size) (h : itU s p = .error er) : Calls Try.prog 30 #[.agg #[.pointer (some ⟨g, 0, none⟩)]] w fun e w' => e = bad er ∧ Below w0.heap.size w0 w' ∧ KeepBut w w' g none := by
  unfold itU at h
  by_cases h1 : s.size < p + 10
  · rw [if_pos h1] at h
    injection h with e1
    subst e1
    by_cases h2 : s.size < p + 1
    · exact update_bad0 w0 w g s p hs (by omega) h2 hI hB
    by_cases h3 : s.size < p + 9
    · exact update_bad1 w0 w g s p hs (by omega) h3 hI hB
    · exact update_bad2 w0 w g s p hs (by omega) h1 hI hB
  rw [if_neg h1] at h; cases h
theorem itX_ok (x : S77) (h : itX s p = .ok (x, q)) : Calls Try.prog 35 #[.agg #[.pointer (some ⟨g, 0, none⟩)]] w fun e w' => e = .returned (.agg #[.int .u64 x.f0, .int .u64 x.f1]) ∧ IsS63 w0 w' g s (q : Int) ∧ Below w0.heap.size w0 w' ∧ KeepBut w w' g none := by
  unfold itX at h
  by_cases h1 : s.size < p + 16
  · rw [if_pos h1] at h; cases h
  rw [if_neg h1] at h
  injection h with h
  injection h with e1 e2
  subst e1 e2
  exact span_ok w0 w g s p hs (by omega) hI hB
theorem itX_bad (er : Int) (hp : p ≤ s.size) (h : itX s p = .error er) : Calls Try.prog 35 #[.agg #[.pointer (some ⟨g, 0, none⟩)]] w fun e w' => e = bad er ∧ Below w0.heap.size w0 w' ∧ KeepBut w w' g none := by
  unfold itX at h
  by_cases h1 : s.size < p + 16
  · rw [if_pos h1] at h
    injection h with e1
    subst e1
    by_cases h2 : s.size < p + 8
    · exact span_bad0 w0 w g s p hs (by omega) h2 hI hB
    · exact span_bad1 w0 w g s p hs (by omega) h1 hI hB
  rw [if_neg h1] at h; cases h
theorem itP_ok (x : S53) (h : itP s p = .ok (x, q)) : Calls Try.prog 33 #[.agg #[.pointer (some ⟨g, 0, none⟩)]] w fun e w' => e = .returned (.agg #[.int .u64 x.f0, .int .i64 x.f1.f0, .int .u64 x.f1.f1, .string x.f1.f2]) ∧ IsS63 w0 w' g s (q : Int) ∧ Below w0.heap.size w0 w' ∧ KeepBut w w' g none := by
  unfold itP at h
  by_cases h1 : s.size < p + 17
  · rw [if_pos h1] at h; cases h
  rw [if_neg h1] at h
  by_cases h2 : textE s (p + 17) = 0
  · rw [if_pos h2] at h
    injection h with h
    injection h with e1 e2
    subst e1 e2
    exact piece_ok w0 w g s p hs (by omega) h2 hI hB
  · rw [if_neg h2] at h; cases h
theorem itP_bad (er : Int) (hp : p ≤ s.size) (h : itP s p = .error er) : Calls Try.prog 33 #[.agg #[.pointer (some ⟨g, 0, none⟩)]] w fun e w' => e = bad er ∧ Below w0.heap.size w0 w' ∧ KeepBut w w' g none := by
  unfold itP at h
  by_cases h1 : s.size < p + 17
  · rw [if_pos h1] at h
    injection h with e1
    subst e1
    by_cases h2 : s.size < p + 8
    · exact piece_bad0 w0 w g s p hs (by omega) h2 hI hB
    by_cases h3 : s.size < p + 9
    · exact piece_bad1 w0 w g s p hs (by omega) h3 hI hB
    · exact piece_bad2 w0 w g s p hs (by omega) h1 hI hB
  rw [if_neg h1] at h
  by_cases h2 : textE s (p + 17) = 0
  · rw [if_pos h2] at h; cases h
  · rw [if_neg h2] at h
    injection h with e1
    subst e1
    exact piece_bad3 w0 w g s p hs (by omega) h2 hI hB
end
theorem itU_le {s : ByteArray} {p q : Nat} {x : S70} (h : itU s p = .ok (x, q)) : q ≤ s.size := by
  unfold itU at h
  by_cases h1 : s.size < p + 10
  · rw [if_pos h1] at h; cases h
  rw [if_neg h1] at h
  injection h with h
  injection h with _ e2
  omega
theorem itX_le {s : ByteArray} {p q : Nat} {x : S77} (h : itX s p = .ok (x, q)) : q ≤ s.size := by
  unfold itX at h
  by_cases h1 : s.size < p + 16
  · rw [if_pos h1] at h; cases h
  rw [if_neg h1] at h
  injection h with h
  injection h with _ e2
  omega
theorem itP_le {s : ByteArray} {p q : Nat} {x : S53} (h : itP s p = .ok (x, q)) : q ≤ s.size := by
  unfold itP at h
  by_cases h1 : s.size < p + 17
  · rw [if_pos h1] at h; cases h
  rw [if_neg h1] at h
  by_cases h2 : textE s (p + 17) = 0
  · rw [if_pos h2] at h
    injection h with h
    injection h with _ e2
    have := textE_ok h2
    omega
  · rw [if_neg h2] at h; cases h
theorem keep_belowL {w W W' : World} {g n : Nat} (h : KeepBut w W g none) (hn : w.heap.size ≤ n) (hb : Below n W W') : KeepBut w W' g none := ⟨Nat.le_trans h.1 hb.size, fun i hi h1 h2 => (hb.block i (by omega)).trans (h.2 i hi h1 h2)⟩
theorem is_belowL {w0 W W' : World} {g n : Nat} {s : ByteArray} {q : Int} (h : IsS63 w0 W g s q) (hn : g < n) (hb : Below n W W') : IsS63 w0 W' g s q := ⟨(hb.block g hn).trans h.1, h.2⟩
theorem info70 : (Try.prog.info? 70).map (fun i => (i.zero, i.size, i.bytes)) = some (some (.agg #[(.int .i64 0), (.int .u64 0), (.int .i64 0)]), 3, 24) := by kernel_rfl
theorem info53 : (Try.prog.info? 53).map (fun i => (i.zero, i.size, i.bytes)) = some (some (.agg #[(.int .u64 0), (.int .i64 0), (.int .u64 0), (.string ⟨#[]⟩)]), 4, 40) := by kernel_rfl
theorem info77 : (Try.prog.info? 77).map (fun i => (i.zero, i.size, i.bytes)) = some (some (.agg #[(.int .u64 0), (.int .u64 0)]), 2, 16) := by kernel_rfl

set_option maxRecDepth 20000 in
set_option maxHeartbeats 2000000 in
theorem upd_list_ok (w0 w : World) (g : Nat) (s : ByteArray) (p : Nat) (most : Int) (hp : p ≤ s.size) (hs : s.size < 4611686018427387904) (hI : IsS63 w0 w g s p) (hB : Below w0.heap.size w0 w) (xs : List S70) (q : Nat) (h : listI s (itU s) most p = .ok (xs, q)) :
    Calls Try.prog 29 #[.agg #[.pointer (some ⟨g, 0, none⟩)], .int .i64 most, .func (.func 30) #[.agg #[.pointer (some ⟨g, 0, none⟩)]] #[]] w fun e w' => ∃ v, e = .returned v ∧ Kd.R k70 70 w' w.heap.size (fun b => b ≠ g) v xs ∧ IsS63 w0 w' g s (q : Int) ∧ q ≤ s.size ∧ Below w0.heap.size w0 w' ∧ KeepBut w w' g none := by
  have HI := Aside0.mk hI
  have HB := Aside0.mk hB
  have HS := Aside0.mk hs
  have HP := Aside0.mk hp
  have GL := Aside0.mk (show g < w.heap.size from blk_lt hI.1)
  have size65 := size65
  have hr := rdv_range s 1 p
  unfold listI at h
  clear hI hB
  by_cases h1 : s.size < p + 1
  · rw [if_pos h1] at h; cases h
  rw [if_neg h1] at h
  have H1 : Aside0 (p + 1 ≤ s.size) := ⟨by omega⟩
  clear h1
  by_cases h2 : most < rdv s p 1
  · rw [if_pos h2] at h; cases h
  rw [if_neg h2] at h
  have hr1 : rdv s p 1 < 256 := hr.2
  obtain ⟨n, hn⟩ : ∃ n : Nat, rdv s p 1 = (n : Int) := ⟨(rdv s p 1).toNat, by omega⟩
  have HN := Aside0.mk hn
  have H256 : Aside0 (n < 256) := ⟨by omega⟩
  rw [hn] at h h2
  rw [Int.toNat_natCast] at h
  have HR := Aside0.mk h
  have hlen : (n : Int) ≤ 9223372036854775807 := by have := H256.out; omega
  clear h hn hr hr1 hp hs
  go_enter Try.func29, Try.ntmps29
  go_wp2_with (first
    | ((with_reducible refine gate_dst (N := 3) rfl ?_); refine box_event ?hg (N := 3) ?hd (cs := #[.pointer (some ⟨g, 0, none⟩)]) (t := 65) ?hr ?_; (case hd => rfl); (case hg => rfl); (case hr => first | (go_simp; done) | (go_simp; rfl)); intro g3 hg_ w1 hb_ hB_; have K3 := Aside0.mk hb_; have HI1 : Aside0 (IsS63 w0 w1 g s p) := ⟨blk_below HI.out.1 hB_, HI.out.2⟩; have HB1 := Aside0.mk (below_step HB.out hB_); have HK1 := Aside0.mk (KeepBut.of_below hB_ g none); clear hg_ hb_ hB_)
    | (refine wpList_load_row rfl 65 (.tmp 3) rfl g3 rfl 65 #[.pointer (some ⟨g, 0, none⟩)] (0, 0) _ K3.out Try.underlying65 rfl size65 ?_)
    | (go_at_call 27; refine (small_ok w0 _ g s p HS.out H1.out HI1.out HB1.out).mono ?_; rintro e w2 ⟨rfl, hi, hb, hk⟩; rw [HN.out]; have HI2 := Aside0.mk hi; have HB2 := Aside0.mk hb; have HK2 := Aside0.mk (HK1.out.trans hk (.inl rfl)); clear hi hb hk K3 HI1 HB1 HK1))
  go_loopw [6, 15] (fun v i wr => ∃ (k r : Nat) (acc : List S70), i = .int .i64 k ∧ Aside0 (k ≤ n ∧ acc.length = k ∧ r ≤ s.size) ∧ Aside0 (runI (itU s) (n - k) r acc = .ok (xs, q)) ∧ Aside0 (Kd.R k70 70 wr w.heap.size (fun b => b ≠ g) v acc) ∧ Aside0 (IsS63 w0 wr g s (r : Int)) ∧ Aside0 (Below w0.heap.size w0 wr) ∧ Aside0 (KeepBut w wr g none))
    (fun _ i _ => n - (intOf i).toNat)
  case atStart => exact ⟨0, p + 1, [], rfl, ⟨Nat.zero_le _, rfl, H1.out⟩, HR, ⟨Kd.R_nil _ _ _ _ _⟩, HI2, HB2, HK2⟩
  case round =>
    obtain ⟨k, r, acc, rfl, hj, hrun, HO, HIr, HBr, HKr⟩ := hrel
    clear HI2 HB2 HK2
    by_cases hlt : k < n
    · have hstep := hrun.out
      obtain ⟨m, hm⟩ : ∃ m, n - k = m + 1 := ⟨n - k - 1, by omega⟩
      rw [hm, runI] at hstep
      have HM : Aside0 (n - (k + 1) = m) := ⟨by omega⟩
      have HLE : Aside0 ((acc.length + 1) * 24 ≤ 140737488355328) := ⟨by have := hj.out.2.1; have := H256.out; omega⟩
      clear hm
      cases hit : itU s r with
      | error er' =>
        rw [hit] at hstep
        dsimp only at hstep
        cases hstep
      | ok xq =>
        obtain ⟨x, q'⟩ := xq
        rw [hit] at hstep
        dsimp only at hstep
        have HT := Aside0.mk hit
        have HST := Aside0.mk hstep
        clear hit hstep hrun
        go_wp2_with (first
          | (go_at_call 30; refine (itU_ok w0 _ g s r q' HS.out HIr.out HBr.out x HT.out).mono ?_; rintro e w3 ⟨rfl, hi, hb, hk⟩; have HI3 := Aside0.mk hi; have HB3 := Aside0.mk hb; have HK3 := Aside0.mk (HKr.out.trans hk (.inl rfl)); have HO3 := Aside0.mk (Kd.R_keep HO.out hk (fun _ h_ => h_)); clear hi hb hk HIr HBr HKr HO)
          | ((with_reducible refine gate_builtin (b := .append) (xs := #[.tmp 17, .tmp 20]) rfl ?_); at_builtin; refine Kd.R_append k70 (w0 := w3) w.heap.size rfl (.tmp 17) (.tmp 20) 25 70 (.agg #[.int .i64 0, .int .u64 0, .int .i64 0]) 24 rfl Try.underlying25 info70 rfl (by decide) (by omega) _ acc x [.int .i64 x.f0, .int .u64 x.f1, .int .i64 x.f2] (fun b => b ≠ g) (fun _ => False) rfl rfl ?aP (fun _ hk => hk.elim) ?aF ?aO ?aB ?aS ?aL ?_; (case aP => exact k70_mkM _ _ _ x); (case aF => exact fun b hb => by have := GL.out; have := HK3.out.1; omega); (case aO => exact HO3.out); (case aB => exact Below.refl _ _); (case aS => exact HK3.out.1); (case aL => exact HLE.out); intro v1 w4 ho hb2 hg hat; have HO4 := Aside0.mk ho; have HI4 := Aside0.mk (is_belowL HI3.out GL.out hb2); have HK4 := Aside0.mk (keep_belowL HK3.out (Nat.le_refl _) hb2); have HB4 := Aside0.mk (HB3.out.trans (hb2.mono HB.out.size)); clear ho hb2 hg hat HI3 HB3 HK3 HO3))
        go_roundw
        case rel => exact ⟨k + 1, q', acc ++ [x], by go_num, ⟨hlt, by rw [List.length_append, hj.out.2.1]; rfl, itU_le HT.out⟩, ⟨by rw [HM.out]; exact HST.out⟩, HO4, HI4, HB4, HK4⟩
        case measure => have := H256.out; simp [intOf]; omega
    · obtain rfl : k = n := by have := hj.out.1; omega
      have hfin := hrun.out
      rw [Nat.sub_self, runI] at hfin
      injection hfin with hfin
      injection hfin with e1 e2
      subst e1 e2
      go_wp2
      go_ret
      exact ⟨_, rfl, HO.out, HIr.out, hj.out.2.2, HBr.out, HKr.out⟩

set_option maxRecDepth 20000 in
set_option maxHeartbeats 2000000 in
theorem upd_list_bad (w0 w : World) (g : Nat) (s : ByteArray) (p : Nat) (most : Int) (hp : p ≤ s.size) (hs : s.size < 4611686018427387904) (hI : IsS63 w0 w g s p) (hB : Below w0.heap.size w0 w) (er : Int) (h : listI s (itU s) most p = .error er) :
    Calls Try.prog 29 #[.agg #[.pointer (some ⟨g, 0, none⟩)], .int .i64 most, .func (.func 30) #[.agg #[.pointer (some ⟨g, 0, none⟩)]] #[]] w fun e w' => e = bad er ∧ Below w0.heap.size w0 w' ∧ KeepBut w w' g none := by
  have HI := Aside0.mk hI
  have HB := Aside0.mk hB
  have HS := Aside0.mk hs
  have HP := Aside0.mk hp
  have GL := Aside0.mk (show g < w.heap.size from blk_lt hI.1)
  have size65 := size65
  have hr := rdv_range s 1 p
  unfold listI at h
  clear hI hB
  by_cases h1 : s.size < p + 1
  · rw [if_pos h1] at h
    injection h with he
    subst he
    have H1 := Aside0.mk h1
    clear h1 hp hs hr
    go_enter Try.func29, Try.ntmps29
    go_wp2_with (first
    | ((with_reducible refine gate_dst (N := 3) rfl ?_); refine box_event ?hg (N := 3) ?hd (cs := #[.pointer (some ⟨g, 0, none⟩)]) (t := 65) ?hr ?_; (case hd => rfl); (case hg => rfl); (case hr => first | (go_simp; done) | (go_simp; rfl)); intro g3 hg_ w1 hb_ hB_; have K3 := Aside0.mk hb_; have HI1 : Aside0 (IsS63 w0 w1 g s p) := ⟨blk_below HI.out.1 hB_, HI.out.2⟩; have HB1 := Aside0.mk (below_step HB.out hB_); have HK1 := Aside0.mk (KeepBut.of_below hB_ g none); clear hg_ hb_ hB_)
    | (refine wpList_load_row rfl 65 (.tmp 3) rfl g3 rfl 65 #[.pointer (some ⟨g, 0, none⟩)] (0, 0) _ K3.out Try.underlying65 rfl size65 ?_)
    | (go_at_call 27; refine (small_bad w0 _ g s p HP.out H1.out HI1.out HB1.out).mono ?_; rintro e w' ⟨rfl, hb, hk⟩; have HB2 := Aside0.mk hb; have HK2 := Aside0.mk (HK1.out.trans hk (.inl rfl)); clear hb hk))
    exact ⟨rfl, rfl, HB2.out, HK2.out⟩
  rw [if_neg h1] at h
  have H1 : Aside0 (p + 1 ≤ s.size) := ⟨by omega⟩
  clear h1
  by_cases h2 : most < rdv s p 1
  · rw [if_pos h2] at h
    injection h with he
    subst he
    have H2 : Aside0 ((decide (rdv s p 1 > most)) = true) := ⟨by simpa using h2⟩
    clear hp hs hr h2
    go_enter Try.func29, Try.ntmps29
    go_wp2_with (first
    | ((with_reducible refine gate_dst (N := 3) rfl ?_); refine box_event ?hg (N := 3) ?hd (cs := #[.pointer (some ⟨g, 0, none⟩)]) (t := 65) ?hr ?_; (case hd => rfl); (case hg => rfl); (case hr => first | (go_simp; done) | (go_simp; rfl)); intro g3 hg_ w1 hb_ hB_; have K3 := Aside0.mk hb_; have HI1 : Aside0 (IsS63 w0 w1 g s p) := ⟨blk_below HI.out.1 hB_, HI.out.2⟩; have HB1 := Aside0.mk (below_step HB.out hB_); have HK1 := Aside0.mk (KeepBut.of_below hB_ g none); clear hg_ hb_ hB_)
    | (refine wpList_load_row rfl 65 (.tmp 3) rfl g3 rfl 65 #[.pointer (some ⟨g, 0, none⟩)] (0, 0) _ K3.out Try.underlying65 rfl size65 ?_)
    | (go_at_call 27; refine (small_ok w0 _ g s p HS.out H1.out HI1.out HB1.out).mono ?_; rintro e w2 ⟨rfl, hi, hb, hk⟩; have HI2 := Aside0.mk hi; have HB2 := Aside0.mk hb; have HK2 := Aside0.mk (HK1.out.trans hk (.inl rfl)); clear hi hb hk K3 HI1 HB1 HK1; have h2 := H2.out))
    exact ⟨rfl, rfl, HB2.out, HK2.out⟩
  rw [if_neg h2] at h
  have hr1 : rdv s p 1 < 256 := hr.2
  obtain ⟨n, hn⟩ : ∃ n : Nat, rdv s p 1 = (n : Int) := ⟨(rdv s p 1).toNat, by omega⟩
  have HN := Aside0.mk hn
  have H256 : Aside0 (n < 256) := ⟨by omega⟩
  rw [hn] at h h2
  rw [Int.toNat_natCast] at h
  have HR := Aside0.mk h
  have hlen : (n : Int) ≤ 9223372036854775807 := by have := H256.out; omega
  clear h hn hr hr1 hp hs
  go_enter Try.func29, Try.ntmps29
  go_wp2_with (first
    | ((with_reducible refine gate_dst (N := 3) rfl ?_); refine box_event ?hg (N := 3) ?hd (cs := #[.pointer (some ⟨g, 0, none⟩)]) (t := 65) ?hr ?_; (case hd => rfl); (case hg => rfl); (case hr => first | (go_simp; done) | (go_simp; rfl)); intro g3 hg_ w1 hb_ hB_; have K3 := Aside0.mk hb_; have HI1 : Aside0 (IsS63 w0 w1 g s p) := ⟨blk_below HI.out.1 hB_, HI.out.2⟩; have HB1 := Aside0.mk (below_step HB.out hB_); have HK1 := Aside0.mk (KeepBut.of_below hB_ g none); clear hg_ hb_ hB_)
    | (refine wpList_load_row rfl 65 (.tmp 3) rfl g3 rfl 65 #[.pointer (some ⟨g, 0, none⟩)] (0, 0) _ K3.out Try.underlying65 rfl size65 ?_)
    | (go_at_call 27; refine (small_ok w0 _ g s p HS.out H1.out HI1.out HB1.out).mono ?_; rintro e w2 ⟨rfl, hi, hb, hk⟩; rw [HN.out]; have HI2 := Aside0.mk hi; have HB2 := Aside0.mk hb; have HK2 := Aside0.mk (HK1.out.trans hk (.inl rfl)); clear hi hb hk K3 HI1 HB1 HK1))
  go_loopw [6, 15] (fun v i wr => ∃ (k r : Nat) (acc : List S70), i = .int .i64 k ∧ Aside0 (k ≤ n ∧ acc.length = k ∧ r ≤ s.size) ∧ Aside0 (runI (itU s) (n - k) r acc = .error er) ∧ Aside0 (Kd.R k70 70 wr w.heap.size (fun b => b ≠ g) v acc) ∧ Aside0 (IsS63 w0 wr g s (r : Int)) ∧ Aside0 (Below w0.heap.size w0 wr) ∧ Aside0 (KeepBut w wr g none))
    (fun _ i _ => n - (intOf i).toNat)
  case atStart => exact ⟨0, p + 1, [], rfl, ⟨Nat.zero_le _, rfl, H1.out⟩, HR, ⟨Kd.R_nil _ _ _ _ _⟩, HI2, HB2, HK2⟩
  case round =>
    obtain ⟨k, r, acc, rfl, hj, hrun, HO, HIr, HBr, HKr⟩ := hrel
    clear HI2 HB2 HK2
    by_cases hlt : k < n
    · have hstep := hrun.out
      obtain ⟨m, hm⟩ : ∃ m, n - k = m + 1 := ⟨n - k - 1, by omega⟩
      rw [hm, runI] at hstep
      have HM : Aside0 (n - (k + 1) = m) := ⟨by omega⟩
      have HLE : Aside0 ((acc.length + 1) * 24 ≤ 140737488355328) := ⟨by have := hj.out.2.1; have := H256.out; omega⟩
      clear hm
      cases hit : itU s r with
      | error er' =>
        rw [hit] at hstep
        dsimp only at hstep
        injection hstep with he
        subst he
        have HT := Aside0.mk hit
        clear hit
        go_wp2_with (first
          | (go_at_call 30; refine (itU_bad w0 _ g s r HS.out HIr.out HBr.out _ hj.out.2.2 HT.out).mono ?_; rintro e w' ⟨rfl, hb, hk⟩; have HB3 := Aside0.mk hb; have HK3 := Aside0.mk (HKr.out.trans hk (.inl rfl)); clear hb hk))
        exact ⟨rfl, rfl, HB3.out, HK3.out⟩
      | ok xq =>
        obtain ⟨x, q'⟩ := xq
        rw [hit] at hstep
        dsimp only at hstep
        have HT := Aside0.mk hit
        have HST := Aside0.mk hstep
        clear hit hstep hrun
        go_wp2_with (first
          | (go_at_call 30; refine (itU_ok w0 _ g s r q' HS.out HIr.out HBr.out x HT.out).mono ?_; rintro e w3 ⟨rfl, hi, hb, hk⟩; have HI3 := Aside0.mk hi; have HB3 := Aside0.mk hb; have HK3 := Aside0.mk (HKr.out.trans hk (.inl rfl)); have HO3 := Aside0.mk (Kd.R_keep HO.out hk (fun _ h_ => h_)); clear hi hb hk HIr HBr HKr HO)
          | ((with_reducible refine gate_builtin (b := .append) (xs := #[.tmp 17, .tmp 20]) rfl ?_); at_builtin; refine Kd.R_append k70 (w0 := w3) w.heap.size rfl (.tmp 17) (.tmp 20) 25 70 (.agg #[.int .i64 0, .int .u64 0, .int .i64 0]) 24 rfl Try.underlying25 info70 rfl (by decide) (by omega) _ acc x [.int .i64 x.f0, .int .u64 x.f1, .int .i64 x.f2] (fun b => b ≠ g) (fun _ => False) rfl rfl ?aP (fun _ hk => hk.elim) ?aF ?aO ?aB ?aS ?aL ?_; (case aP => exact k70_mkM _ _ _ x); (case aF => exact fun b hb => by have := GL.out; have := HK3.out.1; omega); (case aO => exact HO3.out); (case aB => exact Below.refl _ _); (case aS => exact HK3.out.1); (case aL => exact HLE.out); intro v1 w4 ho hb2 hg hat; have HO4 := Aside0.mk ho; have HI4 := Aside0.mk (is_belowL HI3.out GL.out hb2); have HK4 := Aside0.mk (keep_belowL HK3.out (Nat.le_refl _) hb2); have HB4 := Aside0.mk (HB3.out.trans (hb2.mono HB.out.size)); clear ho hb2 hg hat HI3 HB3 HK3 HO3))
        go_roundw
        case rel => exact ⟨k + 1, q', acc ++ [x], by go_num, ⟨hlt, by rw [List.length_append, hj.out.2.1]; rfl, itU_le HT.out⟩, ⟨by rw [HM.out]; exact HST.out⟩, HO4, HI4, HB4, HK4⟩
        case measure => have := H256.out; simp [intOf]; omega
    · obtain rfl : k = n := by have := hj.out.1; omega
      have hfin := hrun.out
      rw [Nat.sub_self, runI] at hfin
      cases hfin

set_option maxRecDepth 20000 in
set_option maxHeartbeats 2000000 in
theorem pc_list_ok (w0 w : World) (g : Nat) (s : ByteArray) (p : Nat) (most : Int) (hp : p ≤ s.size) (hs : s.size < 4611686018427387904) (hI : IsS63 w0 w g s p) (hB : Below w0.heap.size w0 w) (xs : List S53) (q : Nat) (h : listI s (itP s) most p = .ok (xs, q)) :
    Calls Try.prog 32 #[.agg #[.pointer (some ⟨g, 0, none⟩)], .int .i64 most, .func (.func 33) #[.agg #[.pointer (some ⟨g, 0, none⟩)]] #[]] w fun e w' => ∃ v, e = .returned v ∧ Kd.R k53 53 w' w.heap.size (fun b => b ≠ g) v xs ∧ IsS63 w0 w' g s (q : Int) ∧ q ≤ s.size ∧ Below w0.heap.size w0 w' ∧ KeepBut w w' g none := by
  have HI := Aside0.mk hI
  have HB := Aside0.mk hB
  have HS := Aside0.mk hs
  have HP := Aside0.mk hp
  have GL := Aside0.mk (show g < w.heap.size from blk_lt hI.1)
  have size65 := size65
  have hr := rdv_range s 1 p
  unfold listI at h
  clear hI hB
  by_cases h1 : s.size < p + 1
  · rw [if_pos h1] at h; cases h
  rw [if_neg h1] at h
  have H1 : Aside0 (p + 1 ≤ s.size) := ⟨by omega⟩
  clear h1
  by_cases h2 : most < rdv s p 1
  · rw [if_pos h2] at h; cases h
  rw [if_neg h2] at h
  have hr1 : rdv s p 1 < 256 := hr.2
  obtain ⟨n, hn⟩ : ∃ n : Nat, rdv s p 1 = (n : Int) := ⟨(rdv s p 1).toNat, by omega⟩
  have HN := Aside0.mk hn
  have H256 : Aside0 (n < 256) := ⟨by omega⟩
  rw [hn] at h h2
  rw [Int.toNat_natCast] at h
  have HR := Aside0.mk h
  have hlen : (n : Int) ≤ 9223372036854775807 := by have := H256.out; omega
  clear h hn hr hr1 hp hs
  go_enter Try.func32, Try.ntmps32
  go_wp2_with (first
    | ((with_reducible refine gate_dst (N := 3) rfl ?_); refine box_event ?hg (N := 3) ?hd (cs := #[.pointer (some ⟨g, 0, none⟩)]) (t := 65) ?hr ?_; (case hd => rfl); (case hg => rfl); (case hr => first | (go_simp; done) | (go_simp; rfl)); intro g3 hg_ w1 hb_ hB_; have K3 := Aside0.mk hb_; have HI1 : Aside0 (IsS63 w0 w1 g s p) := ⟨blk_below HI.out.1 hB_, HI.out.2⟩; have HB1 := Aside0.mk (below_step HB.out hB_); have HK1 := Aside0.mk (KeepBut.of_below hB_ g none); clear hg_ hb_ hB_)
    | (refine wpList_load_row rfl 65 (.tmp 3) rfl g3 rfl 65 #[.pointer (some ⟨g, 0, none⟩)] (0, 0) _ K3.out Try.underlying65 rfl size65 ?_)
    | (go_at_call 27; refine (small_ok w0 _ g s p HS.out H1.out HI1.out HB1.out).mono ?_; rintro e w2 ⟨rfl, hi, hb, hk⟩; rw [HN.out]; have HI2 := Aside0.mk hi; have HB2 := Aside0.mk hb; have HK2 := Aside0.mk (HK1.out.trans hk (.inl rfl)); clear hi hb hk K3 HI1 HB1 HK1))
  go_loopw [6, 15] (fun v i wr => ∃ (k r : Nat) (acc : List S53), i = .int .i64 k ∧ Aside0 (k ≤ n ∧ acc.length = k ∧ r ≤ s.size) ∧ Aside0 (runI (itP s) (n - k) r acc = .ok (xs, q)) ∧ Aside0 (Kd.R k53 53 wr w.heap.size (fun b => b ≠ g) v acc) ∧ Aside0 (IsS63 w0 wr g s (r : Int)) ∧ Aside0 (Below w0.heap.size w0 wr) ∧ Aside0 (KeepBut w wr g none))
    (fun _ i _ => n - (intOf i).toNat)
  case atStart => exact ⟨0, p + 1, [], rfl, ⟨Nat.zero_le _, rfl, H1.out⟩, HR, ⟨Kd.R_nil _ _ _ _ _⟩, HI2, HB2, HK2⟩
  case round =>
    obtain ⟨k, r, acc, rfl, hj, hrun, HO, HIr, HBr, HKr⟩ := hrel
    clear HI2 HB2 HK2
    by_cases hlt : k < n
    · have hstep := hrun.out
      obtain ⟨m, hm⟩ : ∃ m, n - k = m + 1 := ⟨n - k - 1, by omega⟩
      rw [hm, runI] at hstep
      have HM : Aside0 (n - (k + 1) = m) := ⟨by omega⟩
      have HLE : Aside0 ((acc.length + 1) * 40 ≤ 140737488355328) := ⟨by have := hj.out.2.1; have := H256.out; omega⟩
      clear hm
      cases hit : itP s r with
      | error er' =>
        rw [hit] at hstep
        dsimp only at hstep
        cases hstep
      | ok xq =>
        obtain ⟨x, q'⟩ := xq
        rw [hit] at hstep
        dsimp only at hstep
        have HT := Aside0.mk hit
        have HST := Aside0.mk hstep
        clear hit hstep hrun
        go_wp2_with (first
          | (go_at_call 33; refine (itP_ok w0 _ g s r q' HS.out HIr.out HBr.out x HT.out).mono ?_; rintro e w3 ⟨rfl, hi, hb, hk⟩; have HI3 := Aside0.mk hi; have HB3 := Aside0.mk hb; have HK3 := Aside0.mk (HKr.out.trans hk (.inl rfl)); have HO3 := Aside0.mk (Kd.R_keep HO.out hk (fun _ h_ => h_)); clear hi hb hk HIr HBr HKr HO)
          | ((with_reducible refine gate_builtin (b := .append) (xs := #[.tmp 17, .tmp 20]) rfl ?_); at_builtin; refine Kd.R_append k53 (w0 := w3) w.heap.size rfl (.tmp 17) (.tmp 20) 28 53 (.agg #[.int .u64 0, .int .i64 0, .int .u64 0, .string ⟨#[]⟩]) 40 rfl Try.underlying28 info53 rfl (by decide) (by omega) _ acc x [.int .u64 x.f0, .int .i64 x.f1.f0, .int .u64 x.f1.f1, .string x.f1.f2] (fun b => b ≠ g) (fun _ => False) rfl rfl ?aP (fun _ hk => hk.elim) ?aF ?aO ?aB ?aS ?aL ?_; (case aP => exact k53_mkM _ _ _ x); (case aF => exact fun b hb => by have := GL.out; have := HK3.out.1; omega); (case aO => exact HO3.out); (case aB => exact Below.refl _ _); (case aS => exact HK3.out.1); (case aL => exact HLE.out); intro v1 w4 ho hb2 hg hat; have HO4 := Aside0.mk ho; have HI4 := Aside0.mk (is_belowL HI3.out GL.out hb2); have HK4 := Aside0.mk (keep_belowL HK3.out (Nat.le_refl _) hb2); have HB4 := Aside0.mk (HB3.out.trans (hb2.mono HB.out.size)); clear ho hb2 hg hat HI3 HB3 HK3 HO3))
        go_roundw
        case rel => exact ⟨k + 1, q', acc ++ [x], by go_num, ⟨hlt, by rw [List.length_append, hj.out.2.1]; rfl, itP_le HT.out⟩, ⟨by rw [HM.out]; exact HST.out⟩, HO4, HI4, HB4, HK4⟩
        case measure => have := H256.out; simp [intOf]; omega
    · obtain rfl : k = n := by have := hj.out.1; omega
      have hfin := hrun.out
      rw [Nat.sub_self, runI] at hfin
      injection hfin with hfin
      injection hfin with e1 e2
      subst e1 e2
      go_wp2
      go_ret
      exact ⟨_, rfl, HO.out, HIr.out, hj.out.2.2, HBr.out, HKr.out⟩

set_option maxRecDepth 20000 in
set_option maxHeartbeats 2000000 in
theorem pc_list_bad (w0 w : World) (g : Nat) (s : ByteArray) (p : Nat) (most : Int) (hp : p ≤ s.size) (hs : s.size < 4611686018427387904) (hI : IsS63 w0 w g s p) (hB : Below w0.heap.size w0 w) (er : Int) (h : listI s (itP s) most p = .error er) :
    Calls Try.prog 32 #[.agg #[.pointer (some ⟨g, 0, none⟩)], .int .i64 most, .func (.func 33) #[.agg #[.pointer (some ⟨g, 0, none⟩)]] #[]] w fun e w' => e = bad er ∧ Below w0.heap.size w0 w' ∧ KeepBut w w' g none := by
  have HI := Aside0.mk hI
  have HB := Aside0.mk hB
  have HS := Aside0.mk hs
  have HP := Aside0.mk hp
  have GL := Aside0.mk (show g < w.heap.size from blk_lt hI.1)
  have size65 := size65
  have hr := rdv_range s 1 p
  unfold listI at h
  clear hI hB
  by_cases h1 : s.size < p + 1
  · rw [if_pos h1] at h
    injection h with he
    subst he
    have H1 := Aside0.mk h1
    clear h1 hp hs hr
    go_enter Try.func32, Try.ntmps32
    go_wp2_with (first
    | ((with_reducible refine gate_dst (N := 3) rfl ?_); refine box_event ?hg (N := 3) ?hd (cs := #[.pointer (some ⟨g, 0, none⟩)]) (t := 65) ?hr ?_; (case hd => rfl); (case hg => rfl); (case hr => first | (go_simp; done) | (go_simp; rfl)); intro g3 hg_ w1 hb_ hB_; have K3 := Aside0.mk hb_; have HI1 : Aside0 (IsS63 w0 w1 g s p) := ⟨blk_below HI.out.1 hB_, HI.out.2⟩; have HB1 := Aside0.mk (below_step HB.out hB_); have HK1 := Aside0.mk (KeepBut.of_below hB_ g none); clear hg_ hb_ hB_)
    | (refine wpList_load_row rfl 65 (.tmp 3) rfl g3 rfl 65 #[.pointer (some ⟨g, 0, none⟩)] (0, 0) _ K3.out Try.underlying65 rfl size65 ?_)
    | (go_at_call 27; refine (small_bad w0 _ g s p HP.out H1.out HI1.out HB1.out).mono ?_; rintro e w' ⟨rfl, hb, hk⟩; have HB2 := Aside0.mk hb; have HK2 := Aside0.mk (HK1.out.trans hk (.inl rfl)); clear hb hk))
    exact ⟨rfl, rfl, HB2.out, HK2.out⟩
  rw [if_neg h1] at h
  have H1 : Aside0 (p + 1 ≤ s.size) := ⟨by omega⟩
  clear h1
  by_cases h2 : most < rdv s p 1
  · rw [if_pos h2] at h
    injection h with he
    subst he
    have H2 : Aside0 ((decide (rdv s p 1 > most)) = true) := ⟨by simpa using h2⟩
    clear hp hs hr h2
    go_enter Try.func32, Try.ntmps32
    go_wp2_with (first
    | ((with_reducible refine gate_dst (N := 3) rfl ?_); refine box_event ?hg (N := 3) ?hd (cs := #[.pointer (some ⟨g, 0, none⟩)]) (t := 65) ?hr ?_; (case hd => rfl); (case hg => rfl); (case hr => first | (go_simp; done) | (go_simp; rfl)); intro g3 hg_ w1 hb_ hB_; have K3 := Aside0.mk hb_; have HI1 : Aside0 (IsS63 w0 w1 g s p) := ⟨blk_below HI.out.1 hB_, HI.out.2⟩; have HB1 := Aside0.mk (below_step HB.out hB_); have HK1 := Aside0.mk (KeepBut.of_below hB_ g none); clear hg_ hb_ hB_)
    | (refine wpList_load_row rfl 65 (.tmp 3) rfl g3 rfl 65 #[.pointer (some ⟨g, 0, none⟩)] (0, 0) _ K3.out Try.underlying65 rfl size65 ?_)
    | (go_at_call 27; refine (small_ok w0 _ g s p HS.out H1.out HI1.out HB1.out).mono ?_; rintro e w2 ⟨rfl, hi, hb, hk⟩; have HI2 := Aside0.mk hi; have HB2 := Aside0.mk hb; have HK2 := Aside0.mk (HK1.out.trans hk (.inl rfl)); clear hi hb hk K3 HI1 HB1 HK1; have h2 := H2.out))
    exact ⟨rfl, rfl, HB2.out, HK2.out⟩
  rw [if_neg h2] at h
  have hr1 : rdv s p 1 < 256 := hr.2
  obtain ⟨n, hn⟩ : ∃ n : Nat, rdv s p 1 = (n : Int) := ⟨(rdv s p 1).toNat, by omega⟩
  have HN := Aside0.mk hn
  have H256 : Aside0 (n < 256) := ⟨by omega⟩
  rw [hn] at h h2
  rw [Int.toNat_natCast] at h
  have HR := Aside0.mk h
  have hlen : (n : Int) ≤ 9223372036854775807 := by have := H256.out; omega
  clear h hn hr hr1 hp hs
  go_enter Try.func32, Try.ntmps32
  go_wp2_with (first
    | ((with_reducible refine gate_dst (N := 3) rfl ?_); refine box_event ?hg (N := 3) ?hd (cs := #[.pointer (some ⟨g, 0, none⟩)]) (t := 65) ?hr ?_; (case hd => rfl); (case hg => rfl); (case hr => first | (go_simp; done) | (go_simp; rfl)); intro g3 hg_ w1 hb_ hB_; have K3 := Aside0.mk hb_; have HI1 : Aside0 (IsS63 w0 w1 g s p) := ⟨blk_below HI.out.1 hB_, HI.out.2⟩; have HB1 := Aside0.mk (below_step HB.out hB_); have HK1 := Aside0.mk (KeepBut.of_below hB_ g none); clear hg_ hb_ hB_)
    | (refine wpList_load_row rfl 65 (.tmp 3) rfl g3 rfl 65 #[.pointer (some ⟨g, 0, none⟩)] (0, 0) _ K3.out Try.underlying65 rfl size65 ?_)
    | (go_at_call 27; refine (small_ok w0 _ g s p HS.out H1.out HI1.out HB1.out).mono ?_; rintro e w2 ⟨rfl, hi, hb, hk⟩; rw [HN.out]; have HI2 := Aside0.mk hi; have HB2 := Aside0.mk hb; have HK2 := Aside0.mk (HK1.out.trans hk (.inl rfl)); clear hi hb hk K3 HI1 HB1 HK1))
  go_loopw [6, 15] (fun v i wr => ∃ (k r : Nat) (acc : List S53), i = .int .i64 k ∧ Aside0 (k ≤ n ∧ acc.length = k ∧ r ≤ s.size) ∧ Aside0 (runI (itP s) (n - k) r acc = .error er) ∧ Aside0 (Kd.R k53 53 wr w.heap.size (fun b => b ≠ g) v acc) ∧ Aside0 (IsS63 w0 wr g s (r : Int)) ∧ Aside0 (Below w0.heap.size w0 wr) ∧ Aside0 (KeepBut w wr g none))
    (fun _ i _ => n - (intOf i).toNat)
  case atStart => exact ⟨0, p + 1, [], rfl, ⟨Nat.zero_le _, rfl, H1.out⟩, HR, ⟨Kd.R_nil _ _ _ _ _⟩, HI2, HB2, HK2⟩
  case round =>
    obtain ⟨k, r, acc, rfl, hj, hrun, HO, HIr, HBr, HKr⟩ := hrel
    clear HI2 HB2 HK2
    by_cases hlt : k < n
    · have hstep := hrun.out
      obtain ⟨m, hm⟩ : ∃ m, n - k = m + 1 := ⟨n - k - 1, by omega⟩
      rw [hm, runI] at hstep
      have HM : Aside0 (n - (k + 1) = m) := ⟨by omega⟩
      have HLE : Aside0 ((acc.length + 1) * 40 ≤ 140737488355328) := ⟨by have := hj.out.2.1; have := H256.out; omega⟩
      clear hm
      cases hit : itP s r with
      | error er' =>
        rw [hit] at hstep
        dsimp only at hstep
        injection hstep with he
        subst he
        have HT := Aside0.mk hit
        clear hit
        go_wp2_with (first
          | (go_at_call 33; refine (itP_bad w0 _ g s r HS.out HIr.out HBr.out _ hj.out.2.2 HT.out).mono ?_; rintro e w' ⟨rfl, hb, hk⟩; have HB3 := Aside0.mk hb; have HK3 := Aside0.mk (HKr.out.trans hk (.inl rfl)); clear hb hk))
        exact ⟨rfl, rfl, HB3.out, HK3.out⟩
      | ok xq =>
        obtain ⟨x, q'⟩ := xq
        rw [hit] at hstep
        dsimp only at hstep
        have HT := Aside0.mk hit
        have HST := Aside0.mk hstep
        clear hit hstep hrun
        go_wp2_with (first
          | (go_at_call 33; refine (itP_ok w0 _ g s r q' HS.out HIr.out HBr.out x HT.out).mono ?_; rintro e w3 ⟨rfl, hi, hb, hk⟩; have HI3 := Aside0.mk hi; have HB3 := Aside0.mk hb; have HK3 := Aside0.mk (HKr.out.trans hk (.inl rfl)); have HO3 := Aside0.mk (Kd.R_keep HO.out hk (fun _ h_ => h_)); clear hi hb hk HIr HBr HKr HO)
          | ((with_reducible refine gate_builtin (b := .append) (xs := #[.tmp 17, .tmp 20]) rfl ?_); at_builtin; refine Kd.R_append k53 (w0 := w3) w.heap.size rfl (.tmp 17) (.tmp 20) 28 53 (.agg #[.int .u64 0, .int .i64 0, .int .u64 0, .string ⟨#[]⟩]) 40 rfl Try.underlying28 info53 rfl (by decide) (by omega) _ acc x [.int .u64 x.f0, .int .i64 x.f1.f0, .int .u64 x.f1.f1, .string x.f1.f2] (fun b => b ≠ g) (fun _ => False) rfl rfl ?aP (fun _ hk => hk.elim) ?aF ?aO ?aB ?aS ?aL ?_; (case aP => exact k53_mkM _ _ _ x); (case aF => exact fun b hb => by have := GL.out; have := HK3.out.1; omega); (case aO => exact HO3.out); (case aB => exact Below.refl _ _); (case aS => exact HK3.out.1); (case aL => exact HLE.out); intro v1 w4 ho hb2 hg hat; have HO4 := Aside0.mk ho; have HI4 := Aside0.mk (is_belowL HI3.out GL.out hb2); have HK4 := Aside0.mk (keep_belowL HK3.out (Nat.le_refl _) hb2); have HB4 := Aside0.mk (HB3.out.trans (hb2.mono HB.out.size)); clear ho hb2 hg hat HI3 HB3 HK3 HO3))
        go_roundw
        case rel => exact ⟨k + 1, q', acc ++ [x], by go_num, ⟨hlt, by rw [List.length_append, hj.out.2.1]; rfl, itP_le HT.out⟩, ⟨by rw [HM.out]; exact HST.out⟩, HO4, HI4, HB4, HK4⟩
        case measure => have := H256.out; simp [intOf]; omega
    · obtain rfl : k = n := by have := hj.out.1; omega
      have hfin := hrun.out
      rw [Nat.sub_self, runI] at hfin
      cases hfin

set_option maxRecDepth 20000 in
set_option maxHeartbeats 2000000 in
theorem sp_list_ok (w0 w : World) (g : Nat) (s : ByteArray) (p : Nat) (most : Int) (hp : p ≤ s.size) (hs : s.size < 4611686018427387904) (hI : IsS63 w0 w g s p) (hB : Below w0.heap.size w0 w) (xs : List S77) (q : Nat) (h : listI s (itX s) most p = .ok (xs, q)) :
    Calls Try.prog 34 #[.agg #[.pointer (some ⟨g, 0, none⟩)], .int .i64 most, .func (.func 35) #[.agg #[.pointer (some ⟨g, 0, none⟩)]] #[]] w fun e w' => ∃ v, e = .returned v ∧ Kd.R k77 77 w' w.heap.size (fun b => b ≠ g) v xs ∧ IsS63 w0 w' g s (q : Int) ∧ q ≤ s.size ∧ Below w0.heap.size w0 w' ∧ KeepBut w w' g none := by
  have HI := Aside0.mk hI
  have HB := Aside0.mk hB
  have HS := Aside0.mk hs
  have HP := Aside0.mk hp
  have GL := Aside0.mk (show g < w.heap.size from blk_lt hI.1)
  have size65 := size65
  have hr := rdv_range s 1 p
  unfold listI at h
  clear hI hB
  by_cases h1 : s.size < p + 1
  · rw [if_pos h1] at h; cases h
  rw [if_neg h1] at h
  have H1 : Aside0 (p + 1 ≤ s.size) := ⟨by omega⟩
  clear h1
  by_cases h2 : most < rdv s p 1
  · rw [if_pos h2] at h; cases h
  rw [if_neg h2] at h
  have hr1 : rdv s p 1 < 256 := hr.2
  obtain ⟨n, hn⟩ : ∃ n : Nat, rdv s p 1 = (n : Int) := ⟨(rdv s p 1).toNat, by omega⟩
  have HN := Aside0.mk hn
  have H256 : Aside0 (n < 256) := ⟨by omega⟩
  rw [hn] at h h2
  rw [Int.toNat_natCast] at h
  have HR := Aside0.mk h
  have hlen : (n : Int) ≤ 9223372036854775807 := by have := H256.out; omega
  clear h hn hr hr1 hp hs
  go_enter Try.func34, Try.ntmps34
  go_wp2_with (first
    | ((with_reducible refine gate_dst (N := 3) rfl ?_); refine box_event ?hg (N := 3) ?hd (cs := #[.pointer (some ⟨g, 0, none⟩)]) (t := 65) ?hr ?_; (case hd => rfl); (case hg => rfl); (case hr => first | (go_simp; done) | (go_simp; rfl)); intro g3 hg_ w1 hb_ hB_; have K3 := Aside0.mk hb_; have HI1 : Aside0 (IsS63 w0 w1 g s p) := ⟨blk_below HI.out.1 hB_, HI.out.2⟩; have HB1 := Aside0.mk (below_step HB.out hB_); have HK1 := Aside0.mk (KeepBut.of_below hB_ g none); clear hg_ hb_ hB_)
    | (refine wpList_load_row rfl 65 (.tmp 3) rfl g3 rfl 65 #[.pointer (some ⟨g, 0, none⟩)] (0, 0) _ K3.out Try.underlying65 rfl size65 ?_)
    | (go_at_call 27; refine (small_ok w0 _ g s p HS.out H1.out HI1.out HB1.out).mono ?_; rintro e w2 ⟨rfl, hi, hb, hk⟩; rw [HN.out]; have HI2 := Aside0.mk hi; have HB2 := Aside0.mk hb; have HK2 := Aside0.mk (HK1.out.trans hk (.inl rfl)); clear hi hb hk K3 HI1 HB1 HK1))
  go_loopw [6, 15] (fun v i wr => ∃ (k r : Nat) (acc : List S77), i = .int .i64 k ∧ Aside0 (k ≤ n ∧ acc.length = k ∧ r ≤ s.size) ∧ Aside0 (runI (itX s) (n - k) r acc = .ok (xs, q)) ∧ Aside0 (Kd.R k77 77 wr w.heap.size (fun b => b ≠ g) v acc) ∧ Aside0 (IsS63 w0 wr g s (r : Int)) ∧ Aside0 (Below w0.heap.size w0 wr) ∧ Aside0 (KeepBut w wr g none))
    (fun _ i _ => n - (intOf i).toNat)
  case atStart => exact ⟨0, p + 1, [], rfl, ⟨Nat.zero_le _, rfl, H1.out⟩, HR, ⟨Kd.R_nil _ _ _ _ _⟩, HI2, HB2, HK2⟩
  case round =>
    obtain ⟨k, r, acc, rfl, hj, hrun, HO, HIr, HBr, HKr⟩ := hrel
    clear HI2 HB2 HK2
    by_cases hlt : k < n
    · have hstep := hrun.out
      obtain ⟨m, hm⟩ : ∃ m, n - k = m + 1 := ⟨n - k - 1, by omega⟩
      rw [hm, runI] at hstep
      have HM : Aside0 (n - (k + 1) = m) := ⟨by omega⟩
      have HLE : Aside0 ((acc.length + 1) * 16 ≤ 140737488355328) := ⟨by have := hj.out.2.1; have := H256.out; omega⟩
      clear hm
      cases hit : itX s r with
      | error er' =>
        rw [hit] at hstep
        dsimp only at hstep
        cases hstep
      | ok xq =>
        obtain ⟨x, q'⟩ := xq
        rw [hit] at hstep
        dsimp only at hstep
        have HT := Aside0.mk hit
        have HST := Aside0.mk hstep
        clear hit hstep hrun
        go_wp2_with (first
          | (go_at_call 35; refine (itX_ok w0 _ g s r q' HS.out HIr.out HBr.out x HT.out).mono ?_; rintro e w3 ⟨rfl, hi, hb, hk⟩; have HI3 := Aside0.mk hi; have HB3 := Aside0.mk hb; have HK3 := Aside0.mk (HKr.out.trans hk (.inl rfl)); have HO3 := Aside0.mk (Kd.R_keep HO.out hk (fun _ h_ => h_)); clear hi hb hk HIr HBr HKr HO)
          | ((with_reducible refine gate_builtin (b := .append) (xs := #[.tmp 17, .tmp 20]) rfl ?_); at_builtin; refine Kd.R_append k77 (w0 := w3) w.heap.size rfl (.tmp 17) (.tmp 20) 29 77 (.agg #[.int .u64 0, .int .u64 0]) 16 rfl Try.underlying29 info77 rfl (by decide) (by omega) _ acc x [.int .u64 x.f0, .int .u64 x.f1] (fun b => b ≠ g) (fun _ => False) rfl rfl ?aP (fun _ hk => hk.elim) ?aF ?aO ?aB ?aS ?aL ?_; (case aP => exact k77_mkM _ _ _ x); (case aF => exact fun b hb => by have := GL.out; have := HK3.out.1; omega); (case aO => exact HO3.out); (case aB => exact Below.refl _ _); (case aS => exact HK3.out.1); (case aL => exact HLE.out); intro v1 w4 ho hb2 hg hat; have HO4 := Aside0.mk ho; have HI4 := Aside0.mk (is_belowL HI3.out GL.out hb2); have HK4 := Aside0.mk (keep_belowL HK3.out (Nat.le_refl _) hb2); have HB4 := Aside0.mk (HB3.out.trans (hb2.mono HB.out.size)); clear ho hb2 hg hat HI3 HB3 HK3 HO3))
        go_roundw
        case rel => exact ⟨k + 1, q', acc ++ [x], by go_num, ⟨hlt, by rw [List.length_append, hj.out.2.1]; rfl, itX_le HT.out⟩, ⟨by rw [HM.out]; exact HST.out⟩, HO4, HI4, HB4, HK4⟩
        case measure => have := H256.out; simp [intOf]; omega
    · obtain rfl : k = n := by have := hj.out.1; omega
      have hfin := hrun.out
      rw [Nat.sub_self, runI] at hfin
      injection hfin with hfin
      injection hfin with e1 e2
      subst e1 e2
      go_wp2
      go_ret
      exact ⟨_, rfl, HO.out, HIr.out, hj.out.2.2, HBr.out, HKr.out⟩

set_option maxRecDepth 20000 in
set_option maxHeartbeats 2000000 in
theorem sp_list_bad (w0 w : World) (g : Nat) (s : ByteArray) (p : Nat) (most : Int) (hp : p ≤ s.size) (hs : s.size < 4611686018427387904) (hI : IsS63 w0 w g s p) (hB : Below w0.heap.size w0 w) (er : Int) (h : listI s (itX s) most p = .error er) :
    Calls Try.prog 34 #[.agg #[.pointer (some ⟨g, 0, none⟩)], .int .i64 most, .func (.func 35) #[.agg #[.pointer (some ⟨g, 0, none⟩)]] #[]] w fun e w' => e = bad er ∧ Below w0.heap.size w0 w' ∧ KeepBut w w' g none := by
  have HI := Aside0.mk hI
  have HB := Aside0.mk hB
  have HS := Aside0.mk hs
  have HP := Aside0.mk hp
  have GL := Aside0.mk (show g < w.heap.size from blk_lt hI.1)
  have size65 := size65
  have hr := rdv_range s 1 p
  unfold listI at h
  clear hI hB
  by_cases h1 : s.size < p + 1
  · rw [if_pos h1] at h
    injection h with he
    subst he
    have H1 := Aside0.mk h1
    clear h1 hp hs hr
    go_enter Try.func34, Try.ntmps34
    go_wp2_with (first
    | ((with_reducible refine gate_dst (N := 3) rfl ?_); refine box_event ?hg (N := 3) ?hd (cs := #[.pointer (some ⟨g, 0, none⟩)]) (t := 65) ?hr ?_; (case hd => rfl); (case hg => rfl); (case hr => first | (go_simp; done) | (go_simp; rfl)); intro g3 hg_ w1 hb_ hB_; have K3 := Aside0.mk hb_; have HI1 : Aside0 (IsS63 w0 w1 g s p) := ⟨blk_below HI.out.1 hB_, HI.out.2⟩; have HB1 := Aside0.mk (below_step HB.out hB_); have HK1 := Aside0.mk (KeepBut.of_below hB_ g none); clear hg_ hb_ hB_)
    | (refine wpList_load_row rfl 65 (.tmp 3) rfl g3 rfl 65 #[.pointer (some ⟨g, 0, none⟩)] (0, 0) _ K3.out Try.underlying65 rfl size65 ?_)
    | (go_at_call 27; refine (small_bad w0 _ g s p HP.out H1.out HI1.out HB1.out).mono ?_; rintro e w' ⟨rfl, hb, hk⟩; have HB2 := Aside0.mk hb; have HK2 := Aside0.mk (HK1.out.trans hk (.inl rfl)); clear hb hk))
    exact ⟨rfl, rfl, HB2.out, HK2.out⟩
  rw [if_neg h1] at h
  have H1 : Aside0 (p + 1 ≤ s.size) := ⟨by omega⟩
  clear h1
  by_cases h2 : most < rdv s p 1
  · rw [if_pos h2] at h
    injection h with he
    subst he
    have H2 : Aside0 ((decide (rdv s p 1 > most)) = true) := ⟨by simpa using h2⟩
    clear hp hs hr h2
    go_enter Try.func34, Try.ntmps34
    go_wp2_with (first
    | ((with_reducible refine gate_dst (N := 3) rfl ?_); refine box_event ?hg (N := 3) ?hd (cs := #[.pointer (some ⟨g, 0, none⟩)]) (t := 65) ?hr ?_; (case hd => rfl); (case hg => rfl); (case hr => first | (go_simp; done) | (go_simp; rfl)); intro g3 hg_ w1 hb_ hB_; have K3 := Aside0.mk hb_; have HI1 : Aside0 (IsS63 w0 w1 g s p) := ⟨blk_below HI.out.1 hB_, HI.out.2⟩; have HB1 := Aside0.mk (below_step HB.out hB_); have HK1 := Aside0.mk (KeepBut.of_below hB_ g none); clear hg_ hb_ hB_)
    | (refine wpList_load_row rfl 65 (.tmp 3) rfl g3 rfl 65 #[.pointer (some ⟨g, 0, none⟩)] (0, 0) _ K3.out Try.underlying65 rfl size65 ?_)
    | (go_at_call 27; refine (small_ok w0 _ g s p HS.out H1.out HI1.out HB1.out).mono ?_; rintro e w2 ⟨rfl, hi, hb, hk⟩; have HI2 := Aside0.mk hi; have HB2 := Aside0.mk hb; have HK2 := Aside0.mk (HK1.out.trans hk (.inl rfl)); clear hi hb hk K3 HI1 HB1 HK1; have h2 := H2.out))
    exact ⟨rfl, rfl, HB2.out, HK2.out⟩
  rw [if_neg h2] at h
  have hr1 : rdv s p 1 < 256 := hr.2
  obtain ⟨n, hn⟩ : ∃ n : Nat, rdv s p 1 = (n : Int) := ⟨(rdv s p 1).toNat, by omega⟩
  have HN := Aside0.mk hn
  have H256 : Aside0 (n < 256) := ⟨by omega⟩
  rw [hn] at h h2
  rw [Int.toNat_natCast] at h
  have HR := Aside0.mk h
  have hlen : (n : Int) ≤ 9223372036854775807 := by have := H256.out; omega
  clear h hn hr hr1 hp hs
  go_enter Try.func34, Try.ntmps34
  go_wp2_with (first
    | ((with_reducible refine gate_dst (N := 3) rfl ?_); refine box_event ?hg (N := 3) ?hd (cs := #[.pointer (some ⟨g, 0, none⟩)]) (t := 65) ?hr ?_; (case hd => rfl); (case hg => rfl); (case hr => first | (go_simp; done) | (go_simp; rfl)); intro g3 hg_ w1 hb_ hB_; have K3 := Aside0.mk hb_; have HI1 : Aside0 (IsS63 w0 w1 g s p) := ⟨blk_below HI.out.1 hB_, HI.out.2⟩; have HB1 := Aside0.mk (below_step HB.out hB_); have HK1 := Aside0.mk (KeepBut.of_below hB_ g none); clear hg_ hb_ hB_)
    | (refine wpList_load_row rfl 65 (.tmp 3) rfl g3 rfl 65 #[.pointer (some ⟨g, 0, none⟩)] (0, 0) _ K3.out Try.underlying65 rfl size65 ?_)
    | (go_at_call 27; refine (small_ok w0 _ g s p HS.out H1.out HI1.out HB1.out).mono ?_; rintro e w2 ⟨rfl, hi, hb, hk⟩; rw [HN.out]; have HI2 := Aside0.mk hi; have HB2 := Aside0.mk hb; have HK2 := Aside0.mk (HK1.out.trans hk (.inl rfl)); clear hi hb hk K3 HI1 HB1 HK1))
  go_loopw [6, 15] (fun v i wr => ∃ (k r : Nat) (acc : List S77), i = .int .i64 k ∧ Aside0 (k ≤ n ∧ acc.length = k ∧ r ≤ s.size) ∧ Aside0 (runI (itX s) (n - k) r acc = .error er) ∧ Aside0 (Kd.R k77 77 wr w.heap.size (fun b => b ≠ g) v acc) ∧ Aside0 (IsS63 w0 wr g s (r : Int)) ∧ Aside0 (Below w0.heap.size w0 wr) ∧ Aside0 (KeepBut w wr g none))
    (fun _ i _ => n - (intOf i).toNat)
  case atStart => exact ⟨0, p + 1, [], rfl, ⟨Nat.zero_le _, rfl, H1.out⟩, HR, ⟨Kd.R_nil _ _ _ _ _⟩, HI2, HB2, HK2⟩
  case round =>
    obtain ⟨k, r, acc, rfl, hj, hrun, HO, HIr, HBr, HKr⟩ := hrel
    clear HI2 HB2 HK2
    by_cases hlt : k < n
    · have hstep := hrun.out
      obtain ⟨m, hm⟩ : ∃ m, n - k = m + 1 := ⟨n - k - 1, by omega⟩
      rw [hm, runI] at hstep
      have HM : Aside0 (n - (k + 1) = m) := ⟨by omega⟩
      have HLE : Aside0 ((acc.length + 1) * 16 ≤ 140737488355328) := ⟨by have := hj.out.2.1; have := H256.out; omega⟩
      clear hm
      cases hit : itX s r with
      | error er' =>
        rw [hit] at hstep
        dsimp only at hstep
        injection hstep with he
        subst he
        have HT := Aside0.mk hit
        clear hit
        go_wp2_with (first
          | (go_at_call 35; refine (itX_bad w0 _ g s r HS.out HIr.out HBr.out _ hj.out.2.2 HT.out).mono ?_; rintro e w' ⟨rfl, hb, hk⟩; have HB3 := Aside0.mk hb; have HK3 := Aside0.mk (HKr.out.trans hk (.inl rfl)); clear hb hk))
        exact ⟨rfl, rfl, HB3.out, HK3.out⟩
      | ok xq =>
        obtain ⟨x, q'⟩ := xq
        rw [hit] at hstep
        dsimp only at hstep
        have HT := Aside0.mk hit
        have HST := Aside0.mk hstep
        clear hit hstep hrun
        go_wp2_with (first
          | (go_at_call 35; refine (itX_ok w0 _ g s r q' HS.out HIr.out HBr.out x HT.out).mono ?_; rintro e w3 ⟨rfl, hi, hb, hk⟩; have HI3 := Aside0.mk hi; have HB3 := Aside0.mk hb; have HK3 := Aside0.mk (HKr.out.trans hk (.inl rfl)); have HO3 := Aside0.mk (Kd.R_keep HO.out hk (fun _ h_ => h_)); clear hi hb hk HIr HBr HKr HO)
          | ((with_reducible refine gate_builtin (b := .append) (xs := #[.tmp 17, .tmp 20]) rfl ?_); at_builtin; refine Kd.R_append k77 (w0 := w3) w.heap.size rfl (.tmp 17) (.tmp 20) 29 77 (.agg #[.int .u64 0, .int .u64 0]) 16 rfl Try.underlying29 info77 rfl (by decide) (by omega) _ acc x [.int .u64 x.f0, .int .u64 x.f1] (fun b => b ≠ g) (fun _ => False) rfl rfl ?aP (fun _ hk => hk.elim) ?aF ?aO ?aB ?aS ?aL ?_; (case aP => exact k77_mkM _ _ _ x); (case aF => exact fun b hb => by have := GL.out; have := HK3.out.1; omega); (case aO => exact HO3.out); (case aB => exact Below.refl _ _); (case aS => exact HK3.out.1); (case aL => exact HLE.out); intro v1 w4 ho hb2 hg hat; have HO4 := Aside0.mk ho; have HI4 := Aside0.mk (is_belowL HI3.out GL.out hb2); have HK4 := Aside0.mk (keep_belowL HK3.out (Nat.le_refl _) hb2); have HB4 := Aside0.mk (HB3.out.trans (hb2.mono HB.out.size)); clear ho hb2 hg hat HI3 HB3 HK3 HO3))
        go_roundw
        case rel => exact ⟨k + 1, q', acc ++ [x], by go_num, ⟨hlt, by rw [List.length_append, hj.out.2.1]; rfl, itX_le HT.out⟩, ⟨by rw [HM.out]; exact HST.out⟩, HO4, HI4, HB4, HK4⟩
        case measure => have := H256.out; simp [intOf]; omega
    · obtain rfl : k = n := by have := hj.out.1; omega
      have hfin := hrun.out
      rw [Nat.sub_self, runI] at hfin
      cases hfin
end Go.Proofs.Ytondgoabnmgcaaa.B
end
