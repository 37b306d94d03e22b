/- By hand: a reader's Text. -/
import Derived.Test.YtaegblhfhgiapaaReadNum
import Derived.Test.YtaegblhfhgiapaaB2
import Derived.Defers
import Derived.BigRegion
namespace Go.Proofs.Ytaegblhfhgiapaa.R
open Go.RowKit Go.Proofs.YtaegblhfhgiapaaW.PrintWords Go.Proofs.YtaegblhfhgiapaaW.PrintLast Go.Proofs.YtaegblhfhgiapaaW.PrintMore Go.Proofs.Ytaegblhfhgiapaa.B

theorem back_keep (g2 g5 : Nat) (p : Int) (u : FrameMode) (w : World) (h5 : w.heap[g5]? = some (.cells #[.int .i64 0] 27 (0, 0))) :
    CallsD Try.prog 33 #[.int .i64 p, .pointer (some ⟨g5, 0, none⟩), .pointer (some ⟨g2, 0, none⟩)] u w fun e u' w' => u' = u ∧ (e = .returned (.tuple #[]) ∧ w' = w) := by
  have c5 : w.cell? ⟨g5, 0, none⟩ = some (.int .i64 0) := blk_cell h5 0
  clear h5
  go_enter_d Try.func33, Try.ntmps33
  go_wp2
  go_end0
  exact ⟨rfl, rfl⟩
theorem back_set (g g2 g5 : Nat) (p e q : Int) (s : ByteArray) (u : FrameMode) (w : World) (he : ¬ e = 0) (h5 : w.heap[g5]? = some (.cells #[.int .i64 e] 27 (0, 0))) (h2 : w.heap[g2]? = some (.cells #[.pointer (some ⟨g, 0, none⟩)] 35 (0, 0)))
    (hg : w.heap[g]? = some (.cells #[.string s, .int .i64 q] 63 (0, 0))) :
    CallsD Try.prog 33 #[.int .i64 p, .pointer (some ⟨g5, 0, none⟩), .pointer (some ⟨g2, 0, none⟩)] u w fun e u' w' => u' = u ∧ (e = .returned (.tuple #[]) ∧ w' = w.setCell ⟨g, 1, none⟩ (.int .i64 p)) := by
  have c5 : w.cell? ⟨g5, 0, none⟩ = some (.int .i64 e) := blk_cell h5 0
  have c2 : w.cell? ⟨g2, 0, none⟩ = some (.pointer (some ⟨g, 0, none⟩)) := blk_cell h2 0
  have cg : w.cell? ⟨g, 1, none⟩ = some (.int .i64 q) := blk_cell hg 1
  have fg := blk_frozen hg 1
  have he' : (e != 0) = true := by simpa using he
  clear h5 h2 hg
  go_enter_d Try.func33, Try.ntmps33
  go_wp2
  go_end0
  exact ⟨rfl, rfl⟩
theorem results_t1 {P : Program} {fn : Func} {p u : Tmp} {ty : TypeId} {k : IntKind} (h : fn.results = #[.tmp u, .cell p ty]) (tmps : Array Value) (w : World) (g : Nat) (v : Value)
    (hp : tmps.getD p undef = .pointer (some ⟨g, 0, none⟩)) (hc : w.cell? ⟨g, 0, none⟩ = some v) (hu : P.underlying ty = some (.int k)) :
    (results fn tmps).run P w = .ok (.tuple #[tmps.getD u undef, v]) w := by
  have hp' : tmps[p]?.getD undef = .pointer (some ⟨g, 0, none⟩) := by simpa using hp
  simp [results, h, hp', asAddr, loadVar, isAgg, run_underlying hu, hc]
/-- the way out behind an error: the reader is put back -/
theorem door_set (w0 w W : World) (g g2 g5 : Nat) (s r : ByteArray) (p q er : Int) (T : Array Value) (hne : g5 ≠ g) (he : ¬ er = 0) (hge : w0.heap.size ≤ g)
    (R5 : W.heap[g5]? = some (.cells #[.int .i64 er] 27 (0, 0))) (R2 : W.heap[g2]? = some (.cells #[.pointer (some ⟨g, 0, none⟩)] 35 (0, 0))) (RG : W.heap[g]? = some (.cells #[.string s, .int .i64 q] 63 (0, 0)))
    (RB : Below w0.heap.size w0 W) (RK : KeepBut w W g none) (h4 : T.getD 4 undef = .string r) (h5 : T.getD 5 undef = .pointer (some ⟨g5, 0, none⟩)) :
    bodyPostD Try.prog Try.f17 (fun e w' => e = .returned (.tuple #[.string r, .int .i64 er]) ∧ IsS63 w0 w' g s p ∧ Below w0.heap.size w0 w' ∧ KeepBut w w' g none) Exit.ret
      { tmps := T, defers := [{ target := .fn (.func 33) #[.pointer (some ⟨g5, 0, none⟩), .pointer (some ⟨g2, 0, none⟩)], args := #[.int .i64 p] }] } W := by
  refine leaves_cons (f := 33) (args := #[.int .i64 p, .pointer (some ⟨g5, 0, none⟩), .pointer (some ⟨g2, 0, none⟩)]) (by simp) (by simp [go_sem]) ?_
  refine (back_set g g2 g5 p er q s .returning W he R5 R2 RG).mono ?_
  rintro e u' w'' ⟨rfl, rfl, rfl⟩
  have c5 : (W.setCell ⟨g, 1, none⟩ (.int .i64 p)).cell? ⟨g5, 0, none⟩ = some (.int .i64 er) := blk_cell ((Below.heap_setCell W ⟨g, 1, none⟩ (.int .i64 p) g5 hne).trans R5) 0
  refine ⟨_, results_t1 (by kernel_rfl) _ _ g5 _ h5 c5 Try.underlying27, by rw [h4], ⟨blk_put RG 1 _ rfl, hge⟩, below_set RB hge, RK.set_ 1 _⟩
/-- the way out where all went well -/
theorem door_keep (w0 w W : World) (g g2 g5 : Nat) (s r : ByteArray) (p q : Int) (T : Array Value) (hge : w0.heap.size ≤ g)
    (R5 : W.heap[g5]? = some (.cells #[.int .i64 0] 27 (0, 0))) (RG : W.heap[g]? = some (.cells #[.string s, .int .i64 q] 63 (0, 0)))
    (RB : Below w0.heap.size w0 W) (RK : KeepBut w W g none) (h4 : T.getD 4 undef = .string r) (h5 : T.getD 5 undef = .pointer (some ⟨g5, 0, none⟩)) :
    bodyPostD Try.prog Try.f17 (fun e w' => e = .returned (.tuple #[.string r, .int .i64 0]) ∧ IsS63 w0 w' g s q ∧ Below w0.heap.size w0 w' ∧ KeepBut w w' g none) Exit.ret
      { tmps := T, defers := [{ target := .fn (.func 33) #[.pointer (some ⟨g5, 0, none⟩), .pointer (some ⟨g2, 0, none⟩)], args := #[.int .i64 p] }] } W := by
  refine leaves_cons (f := 33) (args := #[.int .i64 p, .pointer (some ⟨g5, 0, none⟩), .pointer (some ⟨g2, 0, none⟩)]) (by simp) (by simp [go_sem]) ?_
  refine (back_keep g2 g5 p .returning W R5).mono ?_
  rintro e u' w'' ⟨rfl, rfl, rfl⟩
  exact ⟨_, results_t1 (by kernel_rfl) _ _ g5 _ h5 (blk_cell R5 0) Try.underlying27, by rw [h4]; rfl, ⟨RG, hge⟩, RB, RK⟩
theorem s63 {w0 w : World} {g : Nat} {s : ByteArray} {p : Int} (h : w.heap[g]? = some (.cells #[.string s, .int .i64 p] 63 (0, 0))) (hg : w0.heap.size ≤ g) : IsS63 w0 w g s p := ⟨h, hg⟩
set_option maxHeartbeats 4000000 in
theorem text_short (w0 w : World) (g : Nat) (s : ByteArray) (p : Nat) (most : Int) (hI : IsS63 w0 w g s p) (hB : Below w0.heap.size w0 w) (hp : p ≤ s.size) (hs : s.size < p + 2) :
    Calls Try.prog 17 #[.pointer (some ⟨g, 0, none⟩), .int .i64 most] w fun e w' => e = .returned (.tuple #[.string ⟨#[]⟩, .int .i64 10]) ∧ IsS63 w0 w' g s p ∧ Below w0.heap.size w0 w' ∧ KeepBut w w' g none := by
  have hmf : ∀ (fn : Fn) (first cap : Array Value) (w : World), (Instr.makeFunc fn first cap).run Try.prog w = .ok (.func fn first cap) w := fun _ _ _ _ => rfl
  have HN : Aside0 (octet_Reader_Number.f 4 s (p : Int) 2 = some (0, 10, s, (p : Int))) := ⟨num_short s p 2 (by decide) (by decide) hp hs⟩
  have HI := Aside0.mk hI
  have HGE := Aside0.mk hI.2
  have HB := Aside0.mk hB
  have hc1 : w.cell? ⟨g, 1, none⟩ = some (.int .i64 p) := blk_cell hI.1 1
  clear hI hB hp hs
  go_enter_defers Try.func17, Try.ntmps17
  go_wp2_with (first
    | ((with_reducible refine gate_dst (N := 2) rfl ?_); refine box_event ?hg (N := 2) ?hd (cs := #[.pointer (some ⟨g, 0, none⟩)]) (t := 35) ?hr ?_; (case hd => rfl); (case hg => rfl); (case hr => first | (go_simp; done) | (go_simp; rfl)); intro g2 hg2 wn hbn hBn; have K2 := Aside0.mk hbn; have KG := Aside0.mk (blk_below HI.out.1 hBn); have BB := Aside0.mk (below_step HB.out hBn); have KK := Aside0.mk (KeepBut.of_below hBn g none); have n2 := Aside0.mk (show g2 ≠ g by have := (Array.getElem?_eq_some_iff.1 HI.out.1).1; omega); clear hc1 hg2 hbn hBn)
    | ((with_reducible refine gate_dst (N := 5) rfl ?_); refine box_event ?hg (N := 5) ?hd (cs := #[.int .i64 0]) (t := 27) ?hr ?_; (case hd => rfl); (case hg => rfl); (case hr => first | (go_simp; done) | (go_simp; rfl)); intro g5 hg5 wn5 hbn hBn; have K5 := Aside0.mk hbn; have n52 := Aside0.mk (show g5 ≠ g2 by have := (Array.getElem?_eq_some_iff.1 K2.out).1; omega); have G5 := Aside0.mk (show w.heap.size ≤ g5 by have := KK.out.1; omega); have n5 := Aside0.mk (show g5 ≠ g by have := (Array.getElem?_eq_some_iff.1 KG.out).1; omega); replace K2 := Aside0.mk (blk_below K2.out hBn); replace KG := Aside0.mk (blk_below KG.out hBn); replace BB := Aside0.mk (below_step BB.out hBn); replace KK := Aside0.mk (KK.out.trans (KeepBut.of_below hBn g none) (.inl rfl)); have hc2 : wn5.cell? ⟨g2, 0, none⟩ = some (.pointer (some ⟨g, 0, none⟩)) := blk_cell K2.out 0; have hc1 : wn5.cell? ⟨g, 1, none⟩ = some (.int .i64 p) := blk_cell KG.out 1; clear hg5 hbn hBn)
    | (go_at_call 15; go_loud (with_reducible refine (octet_Reader_Number.calls 4 g s p 2 0 10 s p w0 wn5 (s63 KG.out HGE.out) BB.out HN.out).mono ?_); rintro e w6 ⟨rfl, hI6, hB6, hK6⟩; replace K2 := Aside0.mk ((hK6.2 g2 (Array.getElem?_eq_some_iff.1 K2.out).1 n2.out (by simp)).trans K2.out); replace K5 := Aside0.mk ((hK6.2 g5 (Array.getElem?_eq_some_iff.1 K5.out).1 n5.out (by simp)).trans K5.out); replace KG := Aside0.mk hI6.1; replace BB := Aside0.mk hB6; replace KK := Aside0.mk (KK.out.trans hK6 (.inl rfl)); have hd2 : w6.cell? ⟨g2, 0, none⟩ = some (.pointer (some ⟨g, 0, none⟩)) := blk_cell K2.out 0; have hd5 : w6.cell? ⟨g5, 0, none⟩ = some (.int .i64 0) := blk_cell K5.out 0; have hf5 := blk_frozen K5.out 0; have hx25 : ¬ g2 = g5 := (Ne.symm n52.out); have hx52 : ¬ g5 = g2 := n52.out; clear hc1 hc2 hI6 hB6 hK6))
  have G50 : w0.heap.size ≤ g5 := Nat.le_trans HB.out.size G5.out
  have P5 := blk_put K5.out 0 (.int .i64 10) rfl
  have PG := (Below.heap_setCell w6 ⟨g5, 0, none⟩ (.int .i64 10) g (Ne.symm n5.out)).trans KG.out
  have P2 := (Below.heap_setCell w6 ⟨g5, 0, none⟩ (.int .i64 10) g2 (Ne.symm n52.out)).trans K2.out
  have PB := Aside0.mk (below_set (j := 0) (v := .int .i64 10) BB.out G50)
  have PK := Aside0.mk (keep_far KK.out (p := ⟨g5, 0, none⟩) G5.out (.int .i64 10))
  generalize w6.setCell ⟨g5, 0, none⟩ (.int .i64 10) = w7 at P5 PG P2 PB PK ⊢
  have he5 : w7.cell? ⟨g5, 0, none⟩ = some (.int .i64 10) := blk_cell P5 0
  have hz5 : w7.frozen? ⟨g5, 0, none⟩ = false := blk_frozen P5 0
  have Q5 := Aside0.mk P5
  have QG := Aside0.mk PG
  have Q2 := Aside0.mk P2
  clear P5 PG P2 hd2 hd5 hf5
  go_region
  all_goals go_wp2
  have R5 := blk_put Q5.out 0 (.int .i64 10) rfl
  have RG := (Below.heap_setCell w7 ⟨g5, 0, none⟩ (.int .i64 10) g (Ne.symm n5.out)).trans QG.out
  have R2 := (Below.heap_setCell w7 ⟨g5, 0, none⟩ (.int .i64 10) g2 (Ne.symm n52.out)).trans Q2.out
  have RB := below_drew1 (below_set (j := 0) (v := .int .i64 10) PB.out G50)
  have RK := keep_drew (keep_far PK.out (p := ⟨g5, 0, none⟩) G5.out (.int .i64 10))
  generalize w7.setCell ⟨g5, 0, none⟩ (.int .i64 10) = w8 at R5 RG R2 RB RK ⊢
  exact door_set w0 w w8.drew g g2 g5 s _ p p 10 _ n5.out (by decide) HGE.out R5 R2 RG RB RK rfl rfl
set_option maxHeartbeats 4000000 in
theorem text_wide (w0 w : World) (g : Nat) (s : ByteArray) (p : Nat) (most : Int) (hI : IsS63 w0 w g s p) (hB : Below w0.heap.size w0 w) (hsz : s.size < 4611686018427387904) (hs : p + 2 ≤ s.size) (hm : most < rdv s p 2) :
    Calls Try.prog 17 #[.pointer (some ⟨g, 0, none⟩), .int .i64 most] w fun e w' => e = .returned (.tuple #[.string ⟨#[]⟩, .int .i64 12]) ∧ IsS63 w0 w' g s p ∧ Below w0.heap.size w0 w' ∧ KeepBut w w' g none := by
  have hmf : ∀ (fn : Fn) (first cap : Array Value) (w : World), (Instr.makeFunc fn first cap).run Try.prog w = .ok (.func fn first cap) w := fun _ _ _ _ => rfl
  have HN : Aside0 (octet_Reader_Number.f 4 s (p : Int) 2 = some (rdv s p 2, 0, s, (p : Int) + 2)) := ⟨num_ok s p 2 (by decide) (by decide) hsz hs⟩
  have HI := Aside0.mk hI
  have HGE := Aside0.mk hI.2
  have HB := Aside0.mk hB
  have hc1 : w.cell? ⟨g, 1, none⟩ = some (.int .i64 p) := blk_cell hI.1 1
  have hr := rdv_range s 2 p
  have hr1 : rdv s p 2 < 65536 := hr.2
  have hr0 := hr.1
  generalize rdv s p 2 = n at HN hr0 hr1 hm ⊢
  have hw : wrap64 n = n := by unfold wrap64; omega
  clear hI hB hs hsz hr hr0 hr1
  go_enter_defers Try.func17, Try.ntmps17
  go_wp2_with (first
    | ((with_reducible refine gate_dst (N := 2) rfl ?_); refine box_event ?hg (N := 2) ?hd (cs := #[.pointer (some ⟨g, 0, none⟩)]) (t := 35) ?hr ?_; (case hd => rfl); (case hg => rfl); (case hr => first | (go_simp; done) | (go_simp; rfl)); intro g2 hg2 wn hbn hBn; have K2 := Aside0.mk hbn; have KG := Aside0.mk (blk_below HI.out.1 hBn); have BB := Aside0.mk (below_step HB.out hBn); have KK := Aside0.mk (KeepBut.of_below hBn g none); have n2 := Aside0.mk (show g2 ≠ g by have := (Array.getElem?_eq_some_iff.1 HI.out.1).1; omega); clear hc1 hg2 hbn hBn)
    | ((with_reducible refine gate_dst (N := 5) rfl ?_); refine box_event ?hg (N := 5) ?hd (cs := #[.int .i64 0]) (t := 27) ?hr ?_; (case hd => rfl); (case hg => rfl); (case hr => first | (go_simp; done) | (go_simp; rfl)); intro g5 hg5 wn5 hbn hBn; have K5 := Aside0.mk hbn; have n52 := Aside0.mk (show g5 ≠ g2 by have := (Array.getElem?_eq_some_iff.1 K2.out).1; omega); have G5 := Aside0.mk (show w.heap.size ≤ g5 by have := KK.out.1; omega); have n5 := Aside0.mk (show g5 ≠ g by have := (Array.getElem?_eq_some_iff.1 KG.out).1; omega); replace K2 := Aside0.mk (blk_below K2.out hBn); replace KG := Aside0.mk (blk_below KG.out hBn); replace BB := Aside0.mk (below_step BB.out hBn); replace KK := Aside0.mk (KK.out.trans (KeepBut.of_below hBn g none) (.inl rfl)); have hc2 : wn5.cell? ⟨g2, 0, none⟩ = some (.pointer (some ⟨g, 0, none⟩)) := blk_cell K2.out 0; have hc1 : wn5.cell? ⟨g, 1, none⟩ = some (.int .i64 p) := blk_cell KG.out 1; clear hg5 hbn hBn)
    | (go_at_call 15; go_loud (with_reducible refine (octet_Reader_Number.calls 4 g s p 2 n 0 s ((p : Int) + 2) w0 wn5 (s63 KG.out HGE.out) BB.out HN.out).mono ?_); rintro e w6 ⟨rfl, hI6, hB6, hK6⟩; replace K2 := Aside0.mk ((hK6.2 g2 (Array.getElem?_eq_some_iff.1 K2.out).1 n2.out (by simp)).trans K2.out); replace K5 := Aside0.mk ((hK6.2 g5 (Array.getElem?_eq_some_iff.1 K5.out).1 n5.out (by simp)).trans K5.out); replace KG := Aside0.mk hI6.1; replace BB := Aside0.mk hB6; replace KK := Aside0.mk (KK.out.trans hK6 (.inl rfl)); have hd2 : w6.cell? ⟨g2, 0, none⟩ = some (.pointer (some ⟨g, 0, none⟩)) := blk_cell K2.out 0; have hd5 : w6.cell? ⟨g5, 0, none⟩ = some (.int .i64 0) := blk_cell K5.out 0; have hf5 := blk_frozen K5.out 0; have hx25 : ¬ g2 = g5 := (Ne.symm n52.out); have hx52 : ¬ g5 = g2 := n52.out; clear hc1 hc2 hI6 hB6 hK6))
  have G50 : w0.heap.size ≤ g5 := Nat.le_trans HB.out.size G5.out
  have P5 := blk_put K5.out 0 (.int .i64 0) rfl
  have PG := (Below.heap_setCell w6 ⟨g5, 0, none⟩ (.int .i64 0) g (Ne.symm n5.out)).trans KG.out
  have P2 := (Below.heap_setCell w6 ⟨g5, 0, none⟩ (.int .i64 0) g2 (Ne.symm n52.out)).trans K2.out
  have PB := below_set (j := 0) (v := .int .i64 0) BB.out G50
  have PK := keep_far KK.out (p := ⟨g5, 0, none⟩) G5.out (.int .i64 0)
  generalize w6.setCell ⟨g5, 0, none⟩ (.int .i64 0) = w7 at P5 PG P2 PB PK ⊢
  have R5 := blk_put P5 0 (.int .i64 12) rfl
  have RG := (Below.heap_setCell w7 ⟨g5, 0, none⟩ (.int .i64 12) g (Ne.symm n5.out)).trans PG
  have R2 := (Below.heap_setCell w7 ⟨g5, 0, none⟩ (.int .i64 12) g2 (Ne.symm n52.out)).trans P2
  have RB := below_set (j := 0) (v := .int .i64 12) PB G50
  have RK := keep_far PK (p := ⟨g5, 0, none⟩) G5.out (.int .i64 12)
  exact door_set w0 w _ g g2 g5 s _ p _ 12 _ n5.out (by decide) HGE.out R5 R2 RG RB RK rfl rfl
set_option maxHeartbeats 4000000 in
theorem text_few (w0 w : World) (g : Nat) (s : ByteArray) (p : Nat) (most : Int) (hI : IsS63 w0 w g s p) (hB : Below w0.heap.size w0 w) (hsz : s.size < 4611686018427387904) (hs : p + 2 ≤ s.size) (hm : ¬ most < rdv s p 2) (hf : (s.size : Int) - ((p : Int) + 2) < rdv s p 2) :
    Calls Try.prog 17 #[.pointer (some ⟨g, 0, none⟩), .int .i64 most] w fun e w' => e = .returned (.tuple #[.string ⟨#[]⟩, .int .i64 10]) ∧ IsS63 w0 w' g s p ∧ Below w0.heap.size w0 w' ∧ KeepBut w w' g none := by
  have hmf : ∀ (fn : Fn) (first cap : Array Value) (w : World), (Instr.makeFunc fn first cap).run Try.prog w = .ok (.func fn first cap) w := fun _ _ _ _ => rfl
  have HN : Aside0 (octet_Reader_Number.f 4 s (p : Int) 2 = some (rdv s p 2, 0, s, (p : Int) + 2)) := ⟨num_ok s p 2 (by decide) (by decide) hsz hs⟩
  have HI := Aside0.mk hI
  have HGE := Aside0.mk hI.2
  have HB := Aside0.mk hB
  have hc1 : w.cell? ⟨g, 1, none⟩ = some (.int .i64 p) := blk_cell hI.1 1
  have hr := rdv_range s 2 p
  have hr1 : rdv s p 2 < 65536 := hr.2
  have hr0 := hr.1
  generalize rdv s p 2 = n at HN hr0 hr1 hm hf ⊢
  have hw : wrap64 n = n := by unfold wrap64; omega
  have HL : Aside0 (octet_Reader_Left.f s ((p : Int) + 2) = some ((s.size : Int) - ((p : Int) + 2), s, (p : Int) + 2)) := ⟨by
    have : wrap64 ((s.size : Int) - ((p : Int) + 2)) = (s.size : Int) - ((p : Int) + 2) := by unfold wrap64; omega
    unfold octet_Reader_Left.f
    rw [this]⟩
  clear hI hB hs hsz hr hr0 hr1
  go_enter_defers Try.func17, Try.ntmps17
  go_wp2_with (first
    | ((with_reducible refine gate_dst (N := 2) rfl ?_); refine box_event ?hg (N := 2) ?hd (cs := #[.pointer (some ⟨g, 0, none⟩)]) (t := 35) ?hr ?_; (case hd => rfl); (case hg => rfl); (case hr => first | (go_simp; done) | (go_simp; rfl)); intro g2 hg2 wn hbn hBn; have K2 := Aside0.mk hbn; have KG := Aside0.mk (blk_below HI.out.1 hBn); have BB := Aside0.mk (below_step HB.out hBn); have KK := Aside0.mk (KeepBut.of_below hBn g none); have n2 := Aside0.mk (show g2 ≠ g by have := (Array.getElem?_eq_some_iff.1 HI.out.1).1; omega); clear hc1 hg2 hbn hBn)
    | ((with_reducible refine gate_dst (N := 5) rfl ?_); refine box_event ?hg (N := 5) ?hd (cs := #[.int .i64 0]) (t := 27) ?hr ?_; (case hd => rfl); (case hg => rfl); (case hr => first | (go_simp; done) | (go_simp; rfl)); intro g5 hg5 wn5 hbn hBn; have K5 := Aside0.mk hbn; have n52 := Aside0.mk (show g5 ≠ g2 by have := (Array.getElem?_eq_some_iff.1 K2.out).1; omega); have G5 := Aside0.mk (show w.heap.size ≤ g5 by have := KK.out.1; omega); have n5 := Aside0.mk (show g5 ≠ g by have := (Array.getElem?_eq_some_iff.1 KG.out).1; omega); replace K2 := Aside0.mk (blk_below K2.out hBn); replace KG := Aside0.mk (blk_below KG.out hBn); replace BB := Aside0.mk (below_step BB.out hBn); replace KK := Aside0.mk (KK.out.trans (KeepBut.of_below hBn g none) (.inl rfl)); have hc2 : wn5.cell? ⟨g2, 0, none⟩ = some (.pointer (some ⟨g, 0, none⟩)) := blk_cell K2.out 0; have hc1 : wn5.cell? ⟨g, 1, none⟩ = some (.int .i64 p) := blk_cell KG.out 1; clear hg5 hbn hBn)
    | (go_at_call 15; go_loud (with_reducible refine (octet_Reader_Number.calls 4 g s p 2 n 0 s ((p : Int) + 2) w0 wn5 (s63 KG.out HGE.out) BB.out HN.out).mono ?_); rintro e w6 ⟨rfl, hI6, hB6, hK6⟩; replace K2 := Aside0.mk ((hK6.2 g2 (Array.getElem?_eq_some_iff.1 K2.out).1 n2.out (by simp)).trans K2.out); replace K5 := Aside0.mk ((hK6.2 g5 (Array.getElem?_eq_some_iff.1 K5.out).1 n5.out (by simp)).trans K5.out); replace KG := Aside0.mk hI6.1; replace BB := Aside0.mk hB6; replace KK := Aside0.mk (KK.out.trans hK6 (.inl rfl)); have hd2 : w6.cell? ⟨g2, 0, none⟩ = some (.pointer (some ⟨g, 0, none⟩)) := blk_cell K2.out 0; have hd5 : w6.cell? ⟨g5, 0, none⟩ = some (.int .i64 0) := blk_cell K5.out 0; have hf5 := blk_frozen K5.out 0; have hx25 : ¬ g2 = g5 := (Ne.symm n52.out); have hx52 : ¬ g5 = g2 := n52.out; clear hc1 hc2 hI6 hB6 hK6)
    | (go_at_call 16; go_loud (with_reducible refine (octet_Reader_Left.calls g s ((p : Int) + 2) ((s.size : Int) - ((p : Int) + 2)) s ((p : Int) + 2) w0 (w6.setCell ⟨g5, 0, none⟩ (.int .i64 0)) (s63 ((Below.heap_setCell w6 ⟨g5, 0, none⟩ (.int .i64 0) g (Ne.symm n5.out)).trans KG.out) HGE.out) (below_set (j := 0) (v := .int .i64 0) BB.out (Nat.le_trans HB.out.size G5.out)) HL.out).mono ?_); rintro e w9 ⟨rfl, hI9, hB9, hK9⟩; have hsz : (w6.setCell ⟨g5, 0, none⟩ (.int .i64 0)).heap.size = w6.heap.size := (by simp [World.setCell]); have M5 := Aside0.mk ((hK9.2 g5 (by rw [hsz]; exact (Array.getElem?_eq_some_iff.1 K5.out).1) n5.out (by simp)).trans (blk_put K5.out 0 (.int .i64 0) rfl)); have M2 := Aside0.mk ((hK9.2 g2 (by rw [hsz]; exact (Array.getElem?_eq_some_iff.1 K2.out).1) n2.out (by simp)).trans ((Below.heap_setCell w6 ⟨g5, 0, none⟩ (.int .i64 0) g2 (Ne.symm n52.out)).trans K2.out)); have MG := Aside0.mk hI9.1; have MB := Aside0.mk hB9; have MK := Aside0.mk ((keep_far KK.out (p := ⟨g5, 0, none⟩) G5.out (.int .i64 0)).trans hK9 (.inl rfl)); have he2 : w9.cell? ⟨g2, 0, none⟩ = some (.pointer (some ⟨g, 0, none⟩)) := blk_cell M2.out 0; have he5 : w9.cell? ⟨g5, 0, none⟩ = some (.int .i64 0) := blk_cell M5.out 0; have hz5 := blk_frozen M5.out 0; have heg0 : w9.cell? ⟨g, 0, none⟩ = some (.string s) := blk_cell MG.out 0; have heg1 : w9.cell? ⟨g, 1, none⟩ = some (.int .i64 ((p : Int) + 2)) := blk_cell MG.out 1; have hzg := blk_frozen MG.out 1; clear hd2 hd5 hf5 hI9 hB9 hK9 hsz))
  have G50 : w0.heap.size ≤ g5 := Nat.le_trans HB.out.size G5.out
  have R5 := blk_put M5.out 0 (.int .i64 10) rfl
  have RG := (Below.heap_setCell w9 ⟨g5, 0, none⟩ (.int .i64 10) g (Ne.symm n5.out)).trans MG.out
  have R2 := (Below.heap_setCell w9 ⟨g5, 0, none⟩ (.int .i64 10) g2 (Ne.symm n52.out)).trans M2.out
  have RB := below_set (j := 0) (v := .int .i64 10) MB.out G50
  have RK := keep_far MK.out (p := ⟨g5, 0, none⟩) G5.out (.int .i64 10)
  exact door_set w0 w _ g g2 g5 s _ p _ 10 _ n5.out (by decide) HGE.out R5 R2 RG RB RK rfl rfl
end Go.Proofs.Ytaegblhfhgiapaa.R
