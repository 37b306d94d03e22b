/- Texts of this claim, one behind the other (joined by pack.py): OTextRead OTextOk OStaysLaw OBack ORefWrite RefReal OReads1. -/
import Derived.Test.YtondgoabnmgcaaaKLetterEncodes13
import Derived.Test.YtondgoabnmgcaaaKLetterEncodes7
import Derived.Defers
import Derived.BigRegion
section
/- By hand: a reader's Text. -/
namespace Go.Proofs.YtondgoabnmgcaaaO.R
open Go.RowKit Go.Proofs.YtondgoabnmgcaaaW.PrintWords Go.Proofs.YtondgoabnmgcaaaW.PrintLast Go.Proofs.YtondgoabnmgcaaaW.PrintMore Go.Proofs.YtondgoabnmgcaaaO.B

theorem back_keep (g2 g5 : Nat) (p : Int) (u : FrameMode) (w : World) (h5 : w.heap[g5]? = some (.cells #[.int .i64 0] 33 (0, 0))) :
    CallsD Try.prog 90 #[.int .i64 p, .pointer (some ⟨g5, 0, none⟩), .pointer (some ⟨g2, 0, none⟩)] u w fun e u' w' => u' = u ∧ (e = .returned (.tuple #[]) ∧ w' = w) := by
  have c5 : w.cell? ⟨g5, 0, none⟩ = some (.int .i64 0) := blk_cell h5 0
  clear h5
  go_enter_d Try.func90, Try.ntmps90
  go_wp2
  go_end0
  exact ⟨rfl, rfl⟩
theorem back_set (g g2 g5 : Nat) (p e q : Int) (s : ByteArray) (u : FrameMode) (w : World) (he : ¬ e = 0) (h5 : w.heap[g5]? = some (.cells #[.int .i64 e] 33 (0, 0))) (h2 : w.heap[g2]? = some (.cells #[.pointer (some ⟨g, 0, none⟩)] 60 (0, 0)))
    (hg : w.heap[g]? = some (.cells #[.string s, .int .i64 q] 118 (0, 0))) :
    CallsD Try.prog 90 #[.int .i64 p, .pointer (some ⟨g5, 0, none⟩), .pointer (some ⟨g2, 0, none⟩)] u w fun e u' w' => u' = u ∧ (e = .returned (.tuple #[]) ∧ w' = w.setCell ⟨g, 1, none⟩ (.int .i64 p)) := by
  have c5 : w.cell? ⟨g5, 0, none⟩ = some (.int .i64 e) := blk_cell h5 0
  have c2 : w.cell? ⟨g2, 0, none⟩ = some (.pointer (some ⟨g, 0, none⟩)) := blk_cell h2 0
  have cg : w.cell? ⟨g, 1, none⟩ = some (.int .i64 q) := blk_cell hg 1
  have fg := blk_frozen hg 1
  have he' : (e != 0) = true := by simpa using he
  clear h5 h2 hg
  go_enter_d Try.func90, Try.ntmps90
  go_wp2
  go_end0
  exact ⟨rfl, rfl⟩
theorem results_t1 {P : Program} {fn : Func} {p u : Tmp} {ty : TypeId} {k : IntKind} (h : fn.results = #[.tmp u, .cell p ty]) (tmps : Array Value) (w : World) (g : Nat) (v : Value)
    (hp : tmps.getD p undef = .pointer (some ⟨g, 0, none⟩)) (hc : w.cell? ⟨g, 0, none⟩ = some v) (hu : P.underlying ty = some (.int k)) :
    (results fn tmps).run P w = .ok (.tuple #[tmps.getD u undef, v]) w := by
  have hp' : tmps[p]?.getD undef = .pointer (some ⟨g, 0, none⟩) := by simpa using hp
  simp [results, h, hp', asAddr, loadVar, isAgg, run_underlying hu, hc]
/-- the way out behind an error: the reader is put back -/
theorem door_set (w0 w W : World) (g g2 g5 : Nat) (s r : ByteArray) (p q er : Int) (T : Array Value) (hne : g5 ≠ g) (he : ¬ er = 0) (hge : w0.heap.size ≤ g)
    (R5 : W.heap[g5]? = some (.cells #[.int .i64 er] 33 (0, 0))) (R2 : W.heap[g2]? = some (.cells #[.pointer (some ⟨g, 0, none⟩)] 60 (0, 0))) (RG : W.heap[g]? = some (.cells #[.string s, .int .i64 q] 118 (0, 0)))
    (RB : Below w0.heap.size w0 W) (RK : KeepBut w W g none) (h4 : T.getD 4 undef = .string r) (h5 : T.getD 5 undef = .pointer (some ⟨g5, 0, none⟩)) :
    bodyPostD Try.prog Try.f76 (fun e w' => e = .returned (.tuple #[.string r, .int .i64 er]) ∧ IsS63 w0 w' g s p ∧ Below w0.heap.size w0 w' ∧ KeepBut w w' g none) Exit.ret
      { tmps := T, defers := [{ target := .fn (.func 90) #[.pointer (some ⟨g5, 0, none⟩), .pointer (some ⟨g2, 0, none⟩)], args := #[.int .i64 p] }] } W := by
  refine leaves_cons (f := 90) (args := #[.int .i64 p, .pointer (some ⟨g5, 0, none⟩), .pointer (some ⟨g2, 0, none⟩)]) (by simp) (by simp [go_sem]) ?_
  refine (back_set g g2 g5 p er q s .returning W he R5 R2 RG).mono ?_
  rintro e u' w'' ⟨rfl, rfl, rfl⟩
  have c5 : (W.setCell ⟨g, 1, none⟩ (.int .i64 p)).cell? ⟨g5, 0, none⟩ = some (.int .i64 er) := blk_cell ((Below.heap_setCell W ⟨g, 1, none⟩ (.int .i64 p) g5 hne).trans R5) 0
  refine ⟨_, results_t1 (by kernel_rfl) _ _ g5 _ h5 c5 Try.underlying33, by rw [h4], ⟨blk_put RG 1 _ rfl, hge⟩, below_set RB hge, RK.set_ 1 _⟩
/-- the way out where all went well -/
theorem door_keep (w0 w W : World) (g g2 g5 : Nat) (s r : ByteArray) (p q : Int) (T : Array Value) (hge : w0.heap.size ≤ g)
    (R5 : W.heap[g5]? = some (.cells #[.int .i64 0] 33 (0, 0))) (RG : W.heap[g]? = some (.cells #[.string s, .int .i64 q] 118 (0, 0)))
    (RB : Below w0.heap.size w0 W) (RK : KeepBut w W g none) (h4 : T.getD 4 undef = .string r) (h5 : T.getD 5 undef = .pointer (some ⟨g5, 0, none⟩)) :
    bodyPostD Try.prog Try.f76 (fun e w' => e = .returned (.tuple #[.string r, .int .i64 0]) ∧ IsS63 w0 w' g s q ∧ Below w0.heap.size w0 w' ∧ KeepBut w w' g none) Exit.ret
      { tmps := T, defers := [{ target := .fn (.func 90) #[.pointer (some ⟨g5, 0, none⟩), .pointer (some ⟨g2, 0, none⟩)], args := #[.int .i64 p] }] } W := by
  refine leaves_cons (f := 90) (args := #[.int .i64 p, .pointer (some ⟨g5, 0, none⟩), .pointer (some ⟨g2, 0, none⟩)]) (by simp) (by simp [go_sem]) ?_
  refine (back_keep g2 g5 p .returning W R5).mono ?_
  rintro e u' w'' ⟨rfl, rfl, rfl⟩
  exact ⟨_, results_t1 (by kernel_rfl) _ _ g5 _ h5 (blk_cell R5 0) Try.underlying33, by rw [h4]; rfl, ⟨RG, hge⟩, RB, RK⟩
theorem s63 {w0 w : World} {g : Nat} {s : ByteArray} {p : Int} (h : w.heap[g]? = some (.cells #[.string s, .int .i64 p] 118 (0, 0))) (hg : w0.heap.size ≤ g) : IsS63 w0 w g s p := ⟨h, hg⟩
set_option maxHeartbeats 4000000 in
theorem text_short (w0 w : World) (g : Nat) (s : ByteArray) (p : Nat) (most : Int) (hI : IsS63 w0 w g s p) (hB : Below w0.heap.size w0 w) (hp : p ≤ s.size) (hs : s.size < p + 2) :
    Calls Try.prog 76 #[.pointer (some ⟨g, 0, none⟩), .int .i64 most] w fun e w' => e = .returned (.tuple #[.string ⟨#[]⟩, .int .i64 10]) ∧ IsS63 w0 w' g s p ∧ Below w0.heap.size w0 w' ∧ KeepBut w w' g none := by
  have hmf : ∀ (fn : Fn) (first cap : Array Value) (w : World), (Instr.makeFunc fn first cap).run Try.prog w = .ok (.func fn first cap) w := fun _ _ _ _ => rfl
  have HN : Aside0 (octet_Reader_Number.f 4 s (p : Int) 2 = some (0, 10, s, (p : Int))) := ⟨num_short s p 2 (by decide) (by decide) hp hs⟩
  have HI := Aside0.mk hI
  have HGE := Aside0.mk hI.2
  have HB := Aside0.mk hB
  have hc1 : w.cell? ⟨g, 1, none⟩ = some (.int .i64 p) := blk_cell hI.1 1
  clear hI hB hp hs
  go_enter_defers Try.func76, Try.ntmps76
  go_wp2_with (first
    | ((with_reducible refine gate_dst (N := 2) rfl ?_); refine box_event ?hg (N := 2) ?hd (cs := #[.pointer (some ⟨g, 0, none⟩)]) (t := 60) ?hr ?_; (case hd => rfl); (case hg => rfl); (case hr => first | (go_simp; done) | (go_simp; rfl)); intro g2 hg2 wn hbn hBn; have K2 := Aside0.mk hbn; have KG := Aside0.mk (blk_below HI.out.1 hBn); have BB := Aside0.mk (below_step HB.out hBn); have KK := Aside0.mk (KeepBut.of_below hBn g none); have n2 := Aside0.mk (show g2 ≠ g by have := (Array.getElem?_eq_some_iff.1 HI.out.1).1; omega); clear hc1 hg2 hbn hBn)
    | ((with_reducible refine gate_dst (N := 5) rfl ?_); refine box_event ?hg (N := 5) ?hd (cs := #[.int .i64 0]) (t := 33) ?hr ?_; (case hd => rfl); (case hg => rfl); (case hr => first | (go_simp; done) | (go_simp; rfl)); intro g5 hg5 wn5 hbn hBn; have K5 := Aside0.mk hbn; have n52 := Aside0.mk (show g5 ≠ g2 by have := (Array.getElem?_eq_some_iff.1 K2.out).1; omega); have G5 := Aside0.mk (show w.heap.size ≤ g5 by have := KK.out.1; omega); have n5 := Aside0.mk (show g5 ≠ g by have := (Array.getElem?_eq_some_iff.1 KG.out).1; omega); replace K2 := Aside0.mk (blk_below K2.out hBn); replace KG := Aside0.mk (blk_below KG.out hBn); replace BB := Aside0.mk (below_step BB.out hBn); replace KK := Aside0.mk (KK.out.trans (KeepBut.of_below hBn g none) (.inl rfl)); have hc2 : wn5.cell? ⟨g2, 0, none⟩ = some (.pointer (some ⟨g, 0, none⟩)) := blk_cell K2.out 0; have hc1 : wn5.cell? ⟨g, 1, none⟩ = some (.int .i64 p) := blk_cell KG.out 1; clear hg5 hbn hBn)
    | (go_at_call 75; go_loud (with_reducible refine (octet_Reader_Number.calls 4 g s p 2 0 10 s p w0 wn5 (s63 KG.out HGE.out) BB.out HN.out).mono ?_); rintro e w6 ⟨rfl, hI6, hB6, hK6⟩; replace K2 := Aside0.mk ((hK6.2 g2 (Array.getElem?_eq_some_iff.1 K2.out).1 n2.out (by simp)).trans K2.out); replace K5 := Aside0.mk ((hK6.2 g5 (Array.getElem?_eq_some_iff.1 K5.out).1 n5.out (by simp)).trans K5.out); replace KG := Aside0.mk hI6.1; replace BB := Aside0.mk hB6; replace KK := Aside0.mk (KK.out.trans hK6 (.inl rfl)); have hd2 : w6.cell? ⟨g2, 0, none⟩ = some (.pointer (some ⟨g, 0, none⟩)) := blk_cell K2.out 0; have hd5 : w6.cell? ⟨g5, 0, none⟩ = some (.int .i64 0) := blk_cell K5.out 0; have hf5 := blk_frozen K5.out 0; have hx25 : ¬ g2 = g5 := (Ne.symm n52.out); have hx52 : ¬ g5 = g2 := n52.out; clear hc1 hc2 hI6 hB6 hK6))
  have G50 : w0.heap.size ≤ g5 := Nat.le_trans HB.out.size G5.out
  have P5 := blk_put K5.out 0 (.int .i64 10) rfl
  have PG := (Below.heap_setCell w6 ⟨g5, 0, none⟩ (.int .i64 10) g (Ne.symm n5.out)).trans KG.out
  have P2 := (Below.heap_setCell w6 ⟨g5, 0, none⟩ (.int .i64 10) g2 (Ne.symm n52.out)).trans K2.out
  have PB := Aside0.mk (below_set (j := 0) (v := .int .i64 10) BB.out G50)
  have PK := Aside0.mk (keep_far KK.out (p := ⟨g5, 0, none⟩) G5.out (.int .i64 10))
  generalize w6.setCell ⟨g5, 0, none⟩ (.int .i64 10) = w7 at P5 PG P2 PB PK ⊢
  have he5 : w7.cell? ⟨g5, 0, none⟩ = some (.int .i64 10) := blk_cell P5 0
  have hz5 : w7.frozen? ⟨g5, 0, none⟩ = false := blk_frozen P5 0
  have Q5 := Aside0.mk P5
  have QG := Aside0.mk PG
  have Q2 := Aside0.mk P2
  clear P5 PG P2 hd2 hd5 hf5
  go_region
  all_goals go_wp2
  have R5 := blk_put Q5.out 0 (.int .i64 10) rfl
  have RG := (Below.heap_setCell w7 ⟨g5, 0, none⟩ (.int .i64 10) g (Ne.symm n5.out)).trans QG.out
  have R2 := (Below.heap_setCell w7 ⟨g5, 0, none⟩ (.int .i64 10) g2 (Ne.symm n52.out)).trans Q2.out
  have RB := below_drew1 (below_set (j := 0) (v := .int .i64 10) PB.out G50)
  have RK := keep_drew (keep_far PK.out (p := ⟨g5, 0, none⟩) G5.out (.int .i64 10))
  generalize w7.setCell ⟨g5, 0, none⟩ (.int .i64 10) = w8 at R5 RG R2 RB RK ⊢
  exact door_set w0 w w8.drew g g2 g5 s _ p p 10 _ n5.out (by decide) HGE.out R5 R2 RG RB RK rfl rfl
set_option maxHeartbeats 4000000 in
theorem text_wide (w0 w : World) (g : Nat) (s : ByteArray) (p : Nat) (most : Int) (hI : IsS63 w0 w g s p) (hB : Below w0.heap.size w0 w) (hsz : s.size < 4611686018427387904) (hs : p + 2 ≤ s.size) (hm : most < rdv s p 2) :
    Calls Try.prog 76 #[.pointer (some ⟨g, 0, none⟩), .int .i64 most] w fun e w' => e = .returned (.tuple #[.string ⟨#[]⟩, .int .i64 12]) ∧ IsS63 w0 w' g s p ∧ Below w0.heap.size w0 w' ∧ KeepBut w w' g none := by
  have hmf : ∀ (fn : Fn) (first cap : Array Value) (w : World), (Instr.makeFunc fn first cap).run Try.prog w = .ok (.func fn first cap) w := fun _ _ _ _ => rfl
  have HN : Aside0 (octet_Reader_Number.f 4 s (p : Int) 2 = some (rdv s p 2, 0, s, (p : Int) + 2)) := ⟨num_ok s p 2 (by decide) (by decide) hsz hs⟩
  have HI := Aside0.mk hI
  have HGE := Aside0.mk hI.2
  have HB := Aside0.mk hB
  have hc1 : w.cell? ⟨g, 1, none⟩ = some (.int .i64 p) := blk_cell hI.1 1
  have hr := rdv_range s 2 p
  have hr1 : rdv s p 2 < 65536 := hr.2
  have hr0 := hr.1
  generalize rdv s p 2 = n at HN hr0 hr1 hm ⊢
  have hw : wrap64 n = n := by unfold wrap64; omega
  clear hI hB hs hsz hr hr0 hr1
  go_enter_defers Try.func76, Try.ntmps76
  go_wp2_with (first
    | ((with_reducible refine gate_dst (N := 2) rfl ?_); refine box_event ?hg (N := 2) ?hd (cs := #[.pointer (some ⟨g, 0, none⟩)]) (t := 60) ?hr ?_; (case hd => rfl); (case hg => rfl); (case hr => first | (go_simp; done) | (go_simp; rfl)); intro g2 hg2 wn hbn hBn; have K2 := Aside0.mk hbn; have KG := Aside0.mk (blk_below HI.out.1 hBn); have BB := Aside0.mk (below_step HB.out hBn); have KK := Aside0.mk (KeepBut.of_below hBn g none); have n2 := Aside0.mk (show g2 ≠ g by have := (Array.getElem?_eq_some_iff.1 HI.out.1).1; omega); clear hc1 hg2 hbn hBn)
    | ((with_reducible refine gate_dst (N := 5) rfl ?_); refine box_event ?hg (N := 5) ?hd (cs := #[.int .i64 0]) (t := 33) ?hr ?_; (case hd => rfl); (case hg => rfl); (case hr => first | (go_simp; done) | (go_simp; rfl)); intro g5 hg5 wn5 hbn hBn; have K5 := Aside0.mk hbn; have n52 := Aside0.mk (show g5 ≠ g2 by have := (Array.getElem?_eq_some_iff.1 K2.out).1; omega); have G5 := Aside0.mk (show w.heap.size ≤ g5 by have := KK.out.1; omega); have n5 := Aside0.mk (show g5 ≠ g by have := (Array.getElem?_eq_some_iff.1 KG.out).1; omega); replace K2 := Aside0.mk (blk_below K2.out hBn); replace KG := Aside0.mk (blk_below KG.out hBn); replace BB := Aside0.mk (below_step BB.out hBn); replace KK := Aside0.mk (KK.out.trans (KeepBut.of_below hBn g none) (.inl rfl)); have hc2 : wn5.cell? ⟨g2, 0, none⟩ = some (.pointer (some ⟨g, 0, none⟩)) := blk_cell K2.out 0; have hc1 : wn5.cell? ⟨g, 1, none⟩ = some (.int .i64 p) := blk_cell KG.out 1; clear hg5 hbn hBn)
    | (go_at_call 75; go_loud (with_reducible refine (octet_Reader_Number.calls 4 g s p 2 n 0 s ((p : Int) + 2) w0 wn5 (s63 KG.out HGE.out) BB.out HN.out).mono ?_); rintro e w6 ⟨rfl, hI6, hB6, hK6⟩; replace K2 := Aside0.mk ((hK6.2 g2 (Array.getElem?_eq_some_iff.1 K2.out).1 n2.out (by simp)).trans K2.out); replace K5 := Aside0.mk ((hK6.2 g5 (Array.getElem?_eq_some_iff.1 K5.out).1 n5.out (by simp)).trans K5.out); replace KG := Aside0.mk hI6.1; replace BB := Aside0.mk hB6; replace KK := Aside0.mk (KK.out.trans hK6 (.inl rfl)); have hd2 : w6.cell? ⟨g2, 0, none⟩ = some (.pointer (some ⟨g, 0, none⟩)) := blk_cell K2.out 0; have hd5 : w6.cell? ⟨g5, 0, none⟩ = some (.int .i64 0) := blk_cell K5.out 0; have hf5 := blk_frozen K5.out 0; have hx25 : ¬ g2 = g5 := (Ne.symm n52.out); have hx52 : ¬ g5 = g2 := n52.out; clear hc1 hc2 hI6 hB6 hK6))
  have G50 : w0.heap.size ≤ g5 := Nat.le_trans HB.out.size G5.out
  have P5 := blk_put K5.out 0 (.int .i64 0) rfl
  have PG := (Below.heap_setCell w6 ⟨g5, 0, none⟩ (.int .i64 0) g (Ne.symm n5.out)).trans KG.out
  have P2 := (Below.heap_setCell w6 ⟨g5, 0, none⟩ (.int .i64 0) g2 (Ne.symm n52.out)).trans K2.out
  have PB := below_set (j := 0) (v := .int .i64 0) BB.out G50
  have PK := keep_far KK.out (p := ⟨g5, 0, none⟩) G5.out (.int .i64 0)
  generalize w6.setCell ⟨g5, 0, none⟩ (.int .i64 0) = w7 at P5 PG P2 PB PK ⊢
  have R5 := blk_put P5 0 (.int .i64 12) rfl
  have RG := (Below.heap_setCell w7 ⟨g5, 0, none⟩ (.int .i64 12) g (Ne.symm n5.out)).trans PG
  have R2 := (Below.heap_setCell w7 ⟨g5, 0, none⟩ (.int .i64 12) g2 (Ne.symm n52.out)).trans P2
  have RB := below_set (j := 0) (v := .int .i64 12) PB G50
  have RK := keep_far PK (p := ⟨g5, 0, none⟩) G5.out (.int .i64 12)
  exact door_set w0 w _ g g2 g5 s _ p _ 12 _ n5.out (by decide) HGE.out R5 R2 RG RB RK rfl rfl
set_option maxHeartbeats 4000000 in
theorem text_few (w0 w : World) (g : Nat) (s : ByteArray) (p : Nat) (most : Int) (hI : IsS63 w0 w g s p) (hB : Below w0.heap.size w0 w) (hsz : s.size < 4611686018427387904) (hs : p + 2 ≤ s.size) (hm : ¬ most < rdv s p 2) (hf : (s.size : Int) - ((p : Int) + 2) < rdv s p 2) :
    Calls Try.prog 76 #[.pointer (some ⟨g, 0, none⟩), .int .i64 most] w fun e w' => e = .returned (.tuple #[.string ⟨#[]⟩, .int .i64 10]) ∧ IsS63 w0 w' g s p ∧ Below w0.heap.size w0 w' ∧ KeepBut w w' g none := by
  have hmf : ∀ (fn : Fn) (first cap : Array Value) (w : World), (Instr.makeFunc fn first cap).run Try.prog w = .ok (.func fn first cap) w := fun _ _ _ _ => rfl
  have HN : Aside0 (octet_Reader_Number.f 4 s (p : Int) 2 = some (rdv s p 2, 0, s, (p : Int) + 2)) := ⟨num_ok s p 2 (by decide) (by decide) hsz hs⟩
  have HI := Aside0.mk hI
  have HGE := Aside0.mk hI.2
  have HB := Aside0.mk hB
  have hc1 : w.cell? ⟨g, 1, none⟩ = some (.int .i64 p) := blk_cell hI.1 1
  have hr := rdv_range s 2 p
  have hr1 : rdv s p 2 < 65536 := hr.2
  have hr0 := hr.1
  generalize rdv s p 2 = n at HN hr0 hr1 hm hf ⊢
  have hw : wrap64 n = n := by unfold wrap64; omega
  have HL : Aside0 (octet_Reader_Left.f s ((p : Int) + 2) = some ((s.size : Int) - ((p : Int) + 2), s, (p : Int) + 2)) := ⟨by
    have : wrap64 ((s.size : Int) - ((p : Int) + 2)) = (s.size : Int) - ((p : Int) + 2) := by unfold wrap64; omega
    unfold octet_Reader_Left.f
    rw [this]⟩
  clear hI hB hs hsz hr hr0 hr1
  go_enter_defers Try.func76, Try.ntmps76
  go_wp2_with (first
    | ((with_reducible refine gate_dst (N := 2) rfl ?_); refine box_event ?hg (N := 2) ?hd (cs := #[.pointer (some ⟨g, 0, none⟩)]) (t := 60) ?hr ?_; (case hd => rfl); (case hg => rfl); (case hr => first | (go_simp; done) | (go_simp; rfl)); intro g2 hg2 wn hbn hBn; have K2 := Aside0.mk hbn; have KG := Aside0.mk (blk_below HI.out.1 hBn); have BB := Aside0.mk (below_step HB.out hBn); have KK := Aside0.mk (KeepBut.of_below hBn g none); have n2 := Aside0.mk (show g2 ≠ g by have := (Array.getElem?_eq_some_iff.1 HI.out.1).1; omega); clear hc1 hg2 hbn hBn)
    | ((with_reducible refine gate_dst (N := 5) rfl ?_); refine box_event ?hg (N := 5) ?hd (cs := #[.int .i64 0]) (t := 33) ?hr ?_; (case hd => rfl); (case hg => rfl); (case hr => first | (go_simp; done) | (go_simp; rfl)); intro g5 hg5 wn5 hbn hBn; have K5 := Aside0.mk hbn; have n52 := Aside0.mk (show g5 ≠ g2 by have := (Array.getElem?_eq_some_iff.1 K2.out).1; omega); have G5 := Aside0.mk (show w.heap.size ≤ g5 by have := KK.out.1; omega); have n5 := Aside0.mk (show g5 ≠ g by have := (Array.getElem?_eq_some_iff.1 KG.out).1; omega); replace K2 := Aside0.mk (blk_below K2.out hBn); replace KG := Aside0.mk (blk_below KG.out hBn); replace BB := Aside0.mk (below_step BB.out hBn); replace KK := Aside0.mk (KK.out.trans (KeepBut.of_below hBn g none) (.inl rfl)); have hc2 : wn5.cell? ⟨g2, 0, none⟩ = some (.pointer (some ⟨g, 0, none⟩)) := blk_cell K2.out 0; have hc1 : wn5.cell? ⟨g, 1, none⟩ = some (.int .i64 p) := blk_cell KG.out 1; clear hg5 hbn hBn)
    | (go_at_call 75; go_loud (with_reducible refine (octet_Reader_Number.calls 4 g s p 2 n 0 s ((p : Int) + 2) w0 wn5 (s63 KG.out HGE.out) BB.out HN.out).mono ?_); rintro e w6 ⟨rfl, hI6, hB6, hK6⟩; replace K2 := Aside0.mk ((hK6.2 g2 (Array.getElem?_eq_some_iff.1 K2.out).1 n2.out (by simp)).trans K2.out); replace K5 := Aside0.mk ((hK6.2 g5 (Array.getElem?_eq_some_iff.1 K5.out).1 n5.out (by simp)).trans K5.out); replace KG := Aside0.mk hI6.1; replace BB := Aside0.mk hB6; replace KK := Aside0.mk (KK.out.trans hK6 (.inl rfl)); have hd2 : w6.cell? ⟨g2, 0, none⟩ = some (.pointer (some ⟨g, 0, none⟩)) := blk_cell K2.out 0; have hd5 : w6.cell? ⟨g5, 0, none⟩ = some (.int .i64 0) := blk_cell K5.out 0; have hf5 := blk_frozen K5.out 0; have hx25 : ¬ g2 = g5 := (Ne.symm n52.out); have hx52 : ¬ g5 = g2 := n52.out; clear hc1 hc2 hI6 hB6 hK6)
    | (go_at_call 79; go_loud (with_reducible refine (octet_Reader_Left.calls g s ((p : Int) + 2) ((s.size : Int) - ((p : Int) + 2)) s ((p : Int) + 2) w0 (w6.setCell ⟨g5, 0, none⟩ (.int .i64 0)) (s63 ((Below.heap_setCell w6 ⟨g5, 0, none⟩ (.int .i64 0) g (Ne.symm n5.out)).trans KG.out) HGE.out) (below_set (j := 0) (v := .int .i64 0) BB.out (Nat.le_trans HB.out.size G5.out)) HL.out).mono ?_); rintro e w9 ⟨rfl, hI9, hB9, hK9⟩; have hsz : (w6.setCell ⟨g5, 0, none⟩ (.int .i64 0)).heap.size = w6.heap.size := (by simp [World.setCell]); have M5 := Aside0.mk ((hK9.2 g5 (by rw [hsz]; exact (Array.getElem?_eq_some_iff.1 K5.out).1) n5.out (by simp)).trans (blk_put K5.out 0 (.int .i64 0) rfl)); have M2 := Aside0.mk ((hK9.2 g2 (by rw [hsz]; exact (Array.getElem?_eq_some_iff.1 K2.out).1) n2.out (by simp)).trans ((Below.heap_setCell w6 ⟨g5, 0, none⟩ (.int .i64 0) g2 (Ne.symm n52.out)).trans K2.out)); have MG := Aside0.mk hI9.1; have MB := Aside0.mk hB9; have MK := Aside0.mk ((keep_far KK.out (p := ⟨g5, 0, none⟩) G5.out (.int .i64 0)).trans hK9 (.inl rfl)); have he2 : w9.cell? ⟨g2, 0, none⟩ = some (.pointer (some ⟨g, 0, none⟩)) := blk_cell M2.out 0; have he5 : w9.cell? ⟨g5, 0, none⟩ = some (.int .i64 0) := blk_cell M5.out 0; have hz5 := blk_frozen M5.out 0; have heg0 : w9.cell? ⟨g, 0, none⟩ = some (.string s) := blk_cell MG.out 0; have heg1 : w9.cell? ⟨g, 1, none⟩ = some (.int .i64 ((p : Int) + 2)) := blk_cell MG.out 1; have hzg := blk_frozen MG.out 1; clear hd2 hd5 hf5 hI9 hB9 hK9 hsz))
  have G50 : w0.heap.size ≤ g5 := Nat.le_trans HB.out.size G5.out
  have R5 := blk_put M5.out 0 (.int .i64 10) rfl
  have RG := (Below.heap_setCell w9 ⟨g5, 0, none⟩ (.int .i64 10) g (Ne.symm n5.out)).trans MG.out
  have R2 := (Below.heap_setCell w9 ⟨g5, 0, none⟩ (.int .i64 10) g2 (Ne.symm n52.out)).trans M2.out
  have RB := below_set (j := 0) (v := .int .i64 10) MB.out G50
  have RK := keep_far MK.out (p := ⟨g5, 0, none⟩) G5.out (.int .i64 10)
  exact door_set w0 w _ g g2 g5 s _ p _ 10 _ n5.out (by decide) HGE.out R5 R2 RG RB RK rfl rfl
end Go.Proofs.YtondgoabnmgcaaaO.R
end
section
/- By hand: a reader's Text, where all goes well. -/
namespace Go.Proofs.YtondgoabnmgcaaaO.R
open Go.RowKit Go.Proofs.YtondgoabnmgcaaaW.PrintWords Go.Proofs.YtondgoabnmgcaaaW.PrintLast Go.Proofs.YtondgoabnmgcaaaW.PrintMore Go.Proofs.YtondgoabnmgcaaaO.B
set_option linter.unusedSimpArgs false

theorem wp_normal {P : Program} {c : Code} {Q : Exit → Act → World → Prop} {a : Act} {w : World} (h : Code.wp P c (fun e a w => match e with | .normal => Q .normal a w | _ => False) a w) : Code.wp P c Q a w := Code.wp_mono (fun e a w h => by cases e <;> first | exact h | exact h.elim) h
def textT : Bool × List (List Nat × List Nat) := (true, [([], []), ([0], [0]), ([1], [1]), ([2], [2]), ([], []), ([4], [4]), ([5], [5]), ([6], [6]), ([], []), ([8], [8]), ([9], [9]), ([10], [10]), ([], []), ([12], [12]), ([11, 13], [11, 13]), ([3, 7, 14], [3, 7, 14]), ([15, 0, 1, 2, 3, 4, 5, 6, 7, 8, 9, 10, 11, 12, 13, 14, 15], [15])])
def textB : List Nat := [0, 1, 3, 7, 0, 16, 48, 112, 0, 256, 768, 1792, 0, 4096, 16128, 32767, 65535]
theorem textTab : rtab .any (opsOf Try.f76 10) = textT := by kernel_rfl
theorem textBits : waitsOk textT.2 textB = true := by kernel_rfl
set_option maxHeartbeats 4000000 in
theorem text_ok (w0 w : World) (g : Nat) (s : ByteArray) (p : Nat) (most : Int) (hI : IsS63 w0 w g s p) (hB : Below w0.heap.size w0 w) (hsz : s.size < 4611686018427387904) (hs : p + 2 ≤ s.size) (hm : ¬ most < rdv s p 2) (hf : ¬ (s.size : Int) - ((p : Int) + 2) < rdv s p 2) :
    Calls Try.prog 76 #[.pointer (some ⟨g, 0, none⟩), .int .i64 most] w fun e w' => e = .returned (.tuple #[.string (s.extract ((p : Int) + 2).toNat ((p : Int) + 2 + rdv s p 2).toNat), .int .i64 0]) ∧ IsS63 w0 w' g s ((p : Int) + 2 + rdv s p 2) ∧ Below w0.heap.size w0 w' ∧ KeepBut w w' g none := by
  have hmf : ∀ (fn : Fn) (first cap : Array Value) (w : World), (Instr.makeFunc fn first cap).run Try.prog w = .ok (.func fn first cap) w := fun _ _ _ _ => rfl
  have HN : Aside0 (octet_Reader_Number.f 4 s (p : Int) 2 = some (rdv s p 2, 0, s, (p : Int) + 2)) := ⟨num_ok s p 2 (by decide) (by decide) hsz hs⟩
  have HI := Aside0.mk hI
  have HGE := Aside0.mk hI.2
  have HB := Aside0.mk hB
  have hc1 : w.cell? ⟨g, 1, none⟩ = some (.int .i64 p) := blk_cell hI.1 1
  have hr := rdv_range s 2 p
  have hr1 : rdv s p 2 < 65536 := hr.2
  have hr0 := hr.1
  generalize rdv s p 2 = n at HN hr0 hr1 hm hf ⊢
  have hw : wrap64 n = n := by unfold wrap64; omega
  have HL : Aside0 (octet_Reader_Left.f s ((p : Int) + 2) = some ((s.size : Int) - ((p : Int) + 2), s, (p : Int) + 2)) := ⟨by
    have : wrap64 ((s.size : Int) - ((p : Int) + 2)) = (s.size : Int) - ((p : Int) + 2) := by unfold wrap64; omega
    unfold octet_Reader_Left.f
    rw [this]⟩
  have hw2 : wrap64 ((p : Int) + 2 + n) = (p : Int) + 2 + n := by unfold wrap64; omega
  have b0 : 0 ≤ (p : Int) + 2 := by omega
  have b1 : (p : Int) + 2 ≤ (p : Int) + 2 + n := by omega
  have b2 : (p : Int) + 2 + n ≤ (s.size : Int) := by omega
  clear hI hB hs hsz hr
  go_enter_defers Try.func76, Try.ntmps76
  go_wp2_with (first
    | ((with_reducible refine gate_dst (N := 2) rfl ?_); refine box_event ?hg (N := 2) ?hd (cs := #[.pointer (some ⟨g, 0, none⟩)]) (t := 60) ?hr ?_; (case hd => rfl); (case hg => rfl); (case hr => first | (go_simp; done) | (go_simp; rfl)); intro g2 hg2 wn hbn hBn; have K2 := Aside0.mk hbn; have KG := Aside0.mk (blk_below HI.out.1 hBn); have BB := Aside0.mk (below_step HB.out hBn); have KK := Aside0.mk (KeepBut.of_below hBn g none); have n2 := Aside0.mk (show g2 ≠ g by have := (Array.getElem?_eq_some_iff.1 HI.out.1).1; omega); clear hc1 hg2 hbn hBn)
    | ((with_reducible refine gate_dst (N := 5) rfl ?_); refine box_event ?hg (N := 5) ?hd (cs := #[.int .i64 0]) (t := 33) ?hr ?_; (case hd => rfl); (case hg => rfl); (case hr => first | (go_simp; done) | (go_simp; rfl)); intro g5 hg5 wn5 hbn hBn; have K5 := Aside0.mk hbn; have n52 := Aside0.mk (show g5 ≠ g2 by have := (Array.getElem?_eq_some_iff.1 K2.out).1; omega); have G5 := Aside0.mk (show w.heap.size ≤ g5 by have := KK.out.1; omega); have n5 := Aside0.mk (show g5 ≠ g by have := (Array.getElem?_eq_some_iff.1 KG.out).1; omega); replace K2 := Aside0.mk (blk_below K2.out hBn); replace KG := Aside0.mk (blk_below KG.out hBn); replace BB := Aside0.mk (below_step BB.out hBn); replace KK := Aside0.mk (KK.out.trans (KeepBut.of_below hBn g none) (.inl rfl)); have hc2 : wn5.cell? ⟨g2, 0, none⟩ = some (.pointer (some ⟨g, 0, none⟩)) := blk_cell K2.out 0; have hc1 : wn5.cell? ⟨g, 1, none⟩ = some (.int .i64 p) := blk_cell KG.out 1; clear hg5 hbn hBn)
    | (go_at_call 75; go_loud (with_reducible refine (octet_Reader_Number.calls 4 g s p 2 n 0 s ((p : Int) + 2) w0 wn5 (s63 KG.out HGE.out) BB.out HN.out).mono ?_); rintro e w6 ⟨rfl, hI6, hB6, hK6⟩; replace K2 := Aside0.mk ((hK6.2 g2 (Array.getElem?_eq_some_iff.1 K2.out).1 n2.out (by simp)).trans K2.out); replace K5 := Aside0.mk ((hK6.2 g5 (Array.getElem?_eq_some_iff.1 K5.out).1 n5.out (by simp)).trans K5.out); replace KG := Aside0.mk hI6.1; replace BB := Aside0.mk hB6; replace KK := Aside0.mk (KK.out.trans hK6 (.inl rfl)); have hd2 : w6.cell? ⟨g2, 0, none⟩ = some (.pointer (some ⟨g, 0, none⟩)) := blk_cell K2.out 0; have hd5 : w6.cell? ⟨g5, 0, none⟩ = some (.int .i64 0) := blk_cell K5.out 0; have hf5 := blk_frozen K5.out 0; have hx25 : ¬ g2 = g5 := (Ne.symm n52.out); have hx52 : ¬ g5 = g2 := n52.out; clear hc1 hc2 hI6 hB6 hK6)
    | (go_at_call 79; go_loud (with_reducible refine (octet_Reader_Left.calls g s ((p : Int) + 2) ((s.size : Int) - ((p : Int) + 2)) s ((p : Int) + 2) w0 (w6.setCell ⟨g5, 0, none⟩ (.int .i64 0)) (s63 ((Below.heap_setCell w6 ⟨g5, 0, none⟩ (.int .i64 0) g (Ne.symm n5.out)).trans KG.out) HGE.out) (below_set (j := 0) (v := .int .i64 0) BB.out (Nat.le_trans HB.out.size G5.out)) HL.out).mono ?_); rintro e w9 ⟨rfl, hI9, hB9, hK9⟩; have hsz : (w6.setCell ⟨g5, 0, none⟩ (.int .i64 0)).heap.size = w6.heap.size := (by simp [World.setCell]); have M5 := Aside0.mk ((hK9.2 g5 (by rw [hsz]; exact (Array.getElem?_eq_some_iff.1 K5.out).1) n5.out (by simp)).trans (blk_put K5.out 0 (.int .i64 0) rfl)); have M2 := Aside0.mk ((hK9.2 g2 (by rw [hsz]; exact (Array.getElem?_eq_some_iff.1 K2.out).1) n2.out (by simp)).trans ((Below.heap_setCell w6 ⟨g5, 0, none⟩ (.int .i64 0) g2 (Ne.symm n52.out)).trans K2.out)); have MG := Aside0.mk hI9.1; have MB := Aside0.mk hB9; have MK := Aside0.mk ((keep_far KK.out (p := ⟨g5, 0, none⟩) G5.out (.int .i64 0)).trans hK9 (.inl rfl)); have he2 : w9.cell? ⟨g2, 0, none⟩ = some (.pointer (some ⟨g, 0, none⟩)) := blk_cell M2.out 0; have he5 : w9.cell? ⟨g5, 0, none⟩ = some (.int .i64 0) := blk_cell M5.out 0; have hz5 := blk_frozen M5.out 0; have heg0 : w9.cell? ⟨g, 0, none⟩ = some (.string s) := blk_cell MG.out 0; have heg1 : w9.cell? ⟨g, 1, none⟩ = some (.int .i64 ((p : Int) + 2)) := blk_cell MG.out 1; have hzg := blk_frozen MG.out 1; clear hd2 hd5 hf5 hI9 hB9 hK9 hsz))
  have G50 : w0.heap.size ≤ g5 := Nat.le_trans HB.out.size G5.out
  have MBd := Aside0.mk (below_drew1 MB.out)
  have MKd := Aside0.mk (keep_drew MK.out)
  have M5d := Aside0.mk (blk_drew M5.out)
  have M2d := Aside0.mk (blk_drew M2.out)
  have MGd := Aside0.mk (blk_drew MG.out)
  clear M5 M2 MG MB MK he2 he5 hz5 heg0 heg1 hzg
  refine wp_normal ?_
  refine start_ (n := 17) (S := fun w' => w'.cell? ⟨g2, 0, none⟩ = some (.pointer (some ⟨g, 0, none⟩)) ∧ w'.cell? ⟨g, 0, none⟩ = some (.string s) ∧ w'.cell? ⟨g, 1, none⟩ = some (.int .i64 ((p : Int) + 2))) (ds := []) #[false, false, false, false, false, false, false, false, false, false, false, false, false, false, false, false, false] (by kernel_rfl) rfl rfl ⟨blk_cell M2d.out 0, blk_cell MGd.out 0, blk_cell MGd.out 1⟩ (fun hHeld => ?_)
  refine with_tabW textTab textBits (fun HT_ HW_ => ?_)
  generalize w9.drew = w10 at MBd MKd M5d M2d MGd hHeld ⊢
  refine pure_ (i := 12) (N := some 46) (v := ?_) (a' := ?_) #[false, false, false, false, false, false, false, false, false, false, false, false, true, false, false, false, false] rfl rfl (any_of HT_.out (by kernel_rfl)) (fun _ _ _ h => h) (Or.inl ⟨by rfl, ?_⟩) ?_ ?_
  rotate_left
  · intro w'
    go_simp
    with_reducible rfl
  rotate_left
  · simp only [Act.put, List.setIfInBounds_toArray, List.set_cons_zero, List.set_cons_succ, i64_w, i32_w]
    rfl
  refine pure_ (i := 13) (N := some 47) (v := ?_) (a' := ?_) #[false, false, false, false, false, false, false, false, false, false, false, false, true, true, false, false, false] rfl rfl (any_of HT_.out (by kernel_rfl)) (fun _ _ _ h => h) (Or.inl ⟨by rfl, ?_⟩) ?_ ?_
  rotate_left
  · intro w'
    go_simp
    with_reducible rfl
  rotate_left
  · simp only [Act.put, List.setIfInBounds_toArray, List.set_cons_zero, List.set_cons_succ, i64_w, i32_w]
    rfl
  refine take_ (i := 0) (N := some 34) (v := ?_) (a' := ?_) #[true, false, false, false, false, false, false, false, false, false, false, false, true, true, false, false, false] rfl rfl (take_ofW HT_.out HW_.out (by kernel_rfl)) (fun _ _ _ h => h) (Or.inl ⟨by rfl, ?_⟩) hHeld ?_ ?_
  rotate_left
  · rintro w' ⟨s0, s1, s2⟩
    go_simp
    with_reducible rfl
  rotate_left
  · simp only [Act.put, List.setIfInBounds_toArray, List.set_cons_zero, List.set_cons_succ, i64_w, i32_w]
    rfl
  refine pure_ (i := 1) (N := some 35) (v := ?_) (a' := ?_) #[true, true, false, false, false, false, false, false, false, false, false, false, true, true, false, false, false] rfl rfl (any_of HT_.out (by kernel_rfl)) (fun _ _ _ h => h) (Or.inl ⟨by rfl, ?_⟩) ?_ ?_
  rotate_left
  · intro w'
    go_simp
    with_reducible rfl
  rotate_left
  · simp only [Act.put, List.setIfInBounds_toArray, List.set_cons_zero, List.set_cons_succ, i64_w, i32_w]
    rfl
  refine pure_ (i := 2) (N := some 36) (v := ?_) (a' := ?_) #[true, true, true, false, false, false, false, false, false, false, false, false, true, true, false, false, false] rfl rfl (any_of HT_.out (by kernel_rfl)) (fun _ _ _ h => h) (Or.inl ⟨by rfl, ?_⟩) ?_ ?_
  rotate_left
  · intro w'
    go_simp
    with_reducible rfl
  rotate_left
  · simp only [Act.put, List.setIfInBounds_toArray, List.set_cons_zero, List.set_cons_succ, i64_w, i32_w]
    rfl
  refine take_ (i := 3) (N := some 37) (v := ?_) (a' := ?_) #[true, true, true, true, false, false, false, false, false, false, false, false, true, true, false, false, false] rfl rfl (take_ofW HT_.out HW_.out (by kernel_rfl)) (fun _ _ _ h => h) (Or.inl ⟨by rfl, ?_⟩) hHeld ?_ ?_
  rotate_left
  · rintro w' ⟨s0, s1, s2⟩
    go_simp
    with_reducible rfl
  rotate_left
  · simp only [Act.put, List.setIfInBounds_toArray, List.set_cons_zero, List.set_cons_succ, i64_w, i32_w]
    rfl
  refine take_ (i := 4) (N := some 38) (v := ?_) (a' := ?_) #[true, true, true, true, true, false, false, false, false, false, false, false, true, true, false, false, false] rfl rfl (take_ofW HT_.out HW_.out (by kernel_rfl)) (fun _ _ _ h => h) (Or.inl ⟨by rfl, ?_⟩) hHeld ?_ ?_
  rotate_left
  · rintro w' ⟨s0, s1, s2⟩
    go_simp
    with_reducible rfl
  rotate_left
  · simp only [Act.put, List.setIfInBounds_toArray, List.set_cons_zero, List.set_cons_succ, i64_w, i32_w]
    rfl
  refine pure_ (i := 5) (N := some 39) (v := ?_) (a' := ?_) #[true, true, true, true, true, true, false, false, false, false, false, false, true, true, false, false, false] rfl rfl (any_of HT_.out (by kernel_rfl)) (fun _ _ _ h => h) (Or.inl ⟨by rfl, ?_⟩) ?_ ?_
  rotate_left
  · intro w'
    go_simp
    with_reducible rfl
  rotate_left
  · simp only [Act.put, List.setIfInBounds_toArray, List.set_cons_zero, List.set_cons_succ, i64_w, i32_w]
    rfl
  refine pure_ (i := 6) (N := some 40) (v := ?_) (a' := ?_) #[true, true, true, true, true, true, true, false, false, false, false, false, true, true, false, false, false] rfl rfl (any_of HT_.out (by kernel_rfl)) (fun _ _ _ h => h) (Or.inl ⟨by rfl, ?_⟩) ?_ ?_
  rotate_left
  · intro w'
    go_simp
    with_reducible rfl
  rotate_left
  · simp only [Act.put, List.setIfInBounds_toArray, List.set_cons_zero, List.set_cons_succ, i64_w, i32_w]
    rfl
  refine take_ (i := 7) (N := some 41) (v := ?_) (a' := ?_) #[true, true, true, true, true, true, true, true, false, false, false, false, true, true, false, false, false] rfl rfl (take_ofW HT_.out HW_.out (by kernel_rfl)) (fun _ _ _ h => h) (Or.inl ⟨by rfl, ?_⟩) hHeld ?_ ?_
  rotate_left
  · rintro w' ⟨s0, s1, s2⟩
    go_simp
    with_reducible rfl
  rotate_left
  · simp only [Act.put, List.setIfInBounds_toArray, List.set_cons_zero, List.set_cons_succ, i64_w, i32_w]
    rfl
  refine take_ (i := 8) (N := some 42) (v := ?_) (a' := ?_) #[true, true, true, true, true, true, true, true, true, false, false, false, true, true, false, false, false] rfl rfl (take_ofW HT_.out HW_.out (by kernel_rfl)) (fun _ _ _ h => h) (Or.inl ⟨by rfl, ?_⟩) hHeld ?_ ?_
  rotate_left
  · rintro w' ⟨s0, s1, s2⟩
    go_simp
    with_reducible rfl
  rotate_left
  · simp only [Act.put, List.setIfInBounds_toArray, List.set_cons_zero, List.set_cons_succ, i64_w, i32_w]
    rfl
  refine pure_ (i := 9) (N := some 43) (v := ?_) (a' := ?_) #[true, true, true, true, true, true, true, true, true, true, false, false, true, true, false, false, false] rfl rfl (any_of HT_.out (by kernel_rfl)) (fun _ _ _ h => h) (Or.inl ⟨by rfl, ?_⟩) ?_ ?_
  rotate_left
  · intro w'
    go_simp
    with_reducible rfl
  rotate_left
  · simp only [Act.put, List.setIfInBounds_toArray, List.set_cons_zero, List.set_cons_succ, i64_w, i32_w]
    rfl
  refine pure_ (i := 10) (N := some 44) (v := ?_) (a' := ?_) #[true, true, true, true, true, true, true, true, true, true, true, false, true, true, false, false, false] rfl rfl (any_of HT_.out (by kernel_rfl)) (fun _ _ _ h => h) (Or.inl ⟨by rfl, ?_⟩) ?_ ?_
  rotate_left
  · intro w'
    go_simp
    with_reducible rfl
  rotate_left
  · simp only [Act.put, List.setIfInBounds_toArray, List.set_cons_zero, List.set_cons_succ, i64_w, i32_w]
    rfl
  refine take_ (i := 11) (N := some 45) (v := ?_) (a' := ?_) #[true, true, true, true, true, true, true, true, true, true, true, true, true, true, false, false, false] rfl rfl (take_ofW HT_.out HW_.out (by kernel_rfl)) (fun _ _ _ h => h) (Or.inl ⟨by rfl, ?_⟩) hHeld ?_ ?_
  rotate_left
  · rintro w' ⟨s0, s1, s2⟩
    go_simp
    with_reducible rfl
  rotate_left
  · simp only [Act.put, List.setIfInBounds_toArray, List.set_cons_zero, List.set_cons_succ, i64_w, i32_w]
    rfl
  refine pure_ (i := 14) (N := some 48) (v := ?_) (a' := ?_) #[true, true, true, true, true, true, true, true, true, true, true, true, true, true, true, false, false] rfl rfl (any_of HT_.out (by kernel_rfl)) (fun _ _ _ h => h) (Or.inl ⟨by rfl, ?_⟩) ?_ ?_
  rotate_left
  · intro w'
    go_simp
    with_reducible rfl
  rotate_left
  · simp only [Act.put, List.setIfInBounds_toArray, List.set_cons_zero, List.set_cons_succ, i64_w, i32_w]
    rfl
  refine pure_ (i := 15) (N := some 49) (v := ?_) (a' := ?_) #[true, true, true, true, true, true, true, true, true, true, true, true, true, true, true, true, false] rfl rfl (any_of HT_.out (by kernel_rfl)) (fun _ _ _ h => h) (Or.inl ⟨by rfl, ?_⟩) ?_ ?_
  rotate_left
  · intro w'
    go_simp
    with_reducible rfl
  rotate_left
  · simp only [Act.put, List.setIfInBounds_toArray, List.set_cons_zero, List.set_cons_succ, i64_w, i32_w]
    rfl
  refine pure_ (i := 16) (N := some 4) (v := ?_) (a' := ?_) #[true, true, true, true, true, true, true, true, true, true, true, true, true, true, true, true, true] rfl rfl (any_of HT_.out (by kernel_rfl)) (fun _ _ _ h => h) (Or.inl ⟨by rfl, ?_⟩) ?_ ?_
  rotate_left
  · intro w'
    go_simp
    with_reducible rfl
  rotate_left
  · simp only [Act.put, List.setIfInBounds_toArray, List.set_cons_zero, List.set_cons_succ, i64_w, i32_w]
    rfl
  refine done_ (done_of HT_.out (by kernel_rfl)) ?_
  dsimp only
  have fe2 : w10.cell? ⟨g2, 0, none⟩ = some (.pointer (some ⟨g, 0, none⟩)) := blk_cell M2d.out 0
  have fe5 : w10.cell? ⟨g5, 0, none⟩ = some (.int .i64 0) := blk_cell M5d.out 0
  have fg1 : w10.cell? ⟨g, 1, none⟩ = some (.int .i64 ((p : Int) + 2)) := blk_cell MGd.out 1
  have fz5 := blk_frozen M5d.out 0
  have fzg := blk_frozen MGd.out 1
  have hx5 : ¬ g5 = g := n5.out
  have hx5' : ¬ g = g5 := Ne.symm n5.out
  clear hHeld HT_ HW_
  go_wp2
  have R5 := blk_put ((Below.heap_setCell w10 ⟨g, 1, none⟩ (.int .i64 ((p : Int) + 2 + n)) g5 n5.out).trans M5d.out) 0 (.int .i64 0) rfl
  have RG := (Below.heap_setCell (w10.setCell ⟨g, 1, none⟩ (.int .i64 ((p : Int) + 2 + n))) ⟨g5, 0, none⟩ (.int .i64 0) g (Ne.symm n5.out)).trans (blk_put MGd.out 1 (.int .i64 ((p : Int) + 2 + n)) rfl)
  have RB := below_set (j := 0) (v := .int .i64 0) (below_set (j := 1) (v := .int .i64 ((p : Int) + 2 + n)) MBd.out HGE.out) G50
  have RK := keep_far (MKd.out.set_ 1 (.int .i64 ((p : Int) + 2 + n))) (p := ⟨g5, 0, none⟩) G5.out (.int .i64 0)
  exact door_keep w0 w _ g g2 g5 s _ p _ _ HGE.out R5 RG RB RK rfl rfl
end Go.Proofs.YtondgoabnmgcaaaO.R
end
section
/- OctetStays, by hand: the law's own walk. -/
namespace Go.Proofs.YtondgoabnmgcaaaO.R
open Go.RowKit Go.Proofs.YtondgoabnmgcaaaW.PrintWords Go.Proofs.YtondgoabnmgcaaaW.PrintLast Go.Proofs.YtondgoabnmgcaaaW.PrintMore Go.Proofs.YtondgoabnmgcaaaO.B

end Go.Proofs.YtondgoabnmgcaaaO.R
end
section
/- By hand: a text is written; a real is read; what was written stands ahead of what is behind it. -/
namespace Go.Proofs.YtondgoabnmgcaaaO.R
open Go.RowKit Go.Proofs.YtondgoabnmgcaaaW.PrintWords Go.Proofs.YtondgoabnmgcaaaW.PrintLast Go.Proofs.YtondgoabnmgcaaaW.PrintMore Go.Proofs.YtondgoabnmgcaaaO.B

/-- the bytes of what was written, and what is behind it -/
theorem bt_front (L : List Int) (rest : ByteArray) (hL : ∀ x ∈ L, 0 ≤ x ∧ x < 256) (j : Nat) (x : Int) (h : L[j]? = some x) : bt (strOfNums L ++ rest) j = x := by
  have hj : j < L.length := (List.getElem?_eq_some_iff.1 h).1
  have hx := hL x (List.mem_of_getElem? h)
  have hs : j < (strOfNums L ++ rest).size := by rw [ByteArray.size_append, strOfNums_size]; omega
  have hb := bt_at (strOfNums L ++ rest) (j : Int) (by rw [Int.toNat_natCast]; exact hs)
  rw [← hb]
  have e : (strOfNums L ++ rest)[(j : Int).toNat]'(by rw [Int.toNat_natCast]; exact hs) = UInt8.ofNat x.toNat := by
    have h1 : (strOfNums L ++ rest).data.toList[j]? = some (UInt8.ofNat x.toNat) := by
      rw [ByteArray.data_append, Array.toList_append, strOfNums_data, List.getElem?_append_left (by rw [List.length_map]; exact hj), List.getElem?_map, h]
      rfl
    have h2 := (List.getElem?_eq_some_iff.1 h1).2
    rw [← h2]
    rfl
  rw [e, UInt8.toNat_ofNat']
  omega
theorem rdv_front (rest : ByteArray) : ∀ (i : Nat) (A C : List Int) (v : Int), (∀ x ∈ A ++ le i v ++ C, 0 ≤ x ∧ x < 256) → 0 ≤ v → v < 256 ^ i → rdv (strOfNums (A ++ le i v ++ C) ++ rest) A.length i = v
  | 0, A, C, v, _, h0, h1 => by simp at h1; rw [rdv]; omega
  | i + 1, A, C, v, hL, h0, h1 => by
    have e : A ++ le (i + 1) v ++ C = (A ++ [v % 256]) ++ le i (v / 256) ++ C := by rw [le]; simp
    have hp : (256 : Int) ^ (i + 1) = 256 * 256 ^ i := by rw [Int.pow_succ, Int.mul_comm]
    rw [hp] at h1
    have hb := bt_front (A ++ le (i + 1) v ++ C) rest hL A.length (v % 256) (by rw [le]; simp)
    have ih := rdv_front rest i (A ++ [v % 256]) C (v / 256) (by rw [← e]; exact hL) (by omega) (by omega)
    rw [← e, List.length_append, List.length_singleton] at ih
    rw [rdv, hb, ih]
    omega
theorem bytesOf_byte (s : ByteArray) : ∀ x ∈ bytesOf s, 0 ≤ x ∧ x < 256 := by
  intro x hx
  obtain ⟨b, _, rfl⟩ := List.mem_map.1 hx
  have := b.toNat_lt
  omega
theorem strOf_bytesOf (A : List Int) (s : ByteArray) : (strOfNums (A ++ bytesOf s)).data.toList = (strOfNums A).data.toList ++ s.data.toList := by
  rw [strOfNums_data, strOfNums_data, List.map_append]
  congr 1
  unfold bytesOf
  rw [List.map_map]
  have : ((fun n : Int => UInt8.ofNat n.toNat) ∘ fun b : UInt8 => (b.toNat : Int)) = id := by
    funext b
    simp
  rw [this, List.map_id]
theorem cut_back (A : List Int) (s rest : ByteArray) : (strOfNums (A ++ bytesOf s) ++ rest).extract A.length (A.length + s.size) = s := by
  apply ByteArray.ext
  apply Array.toList_inj.1
  rw [ByteArray.data_extract, Array.toList_extract, ByteArray.data_append, Array.toList_append, strOf_bytesOf]
  have hA : (strOfNums A).data.toList.length = A.length := by rw [strOfNums_data, List.length_map]
  have hs : s.data.toList.length = s.size := data_length s
  rw [List.extract_eq_take_drop]
  rw [List.append_assoc, List.drop_append_of_le_length (by omega), ← hA, List.drop_length, List.nil_append, Nat.add_sub_cancel_left, ← hs, List.take_append_of_le_length (Nat.le_refl _), List.take_length]
end Go.Proofs.YtondgoabnmgcaaaO.R
end
section
/- By hand: the document's Number, Real and Text. -/
namespace Go.Proofs.YtondgoabnmgcaaaO.R
open Go.RowKit Go.Proofs.YtondgoabnmgcaaaW.PrintWords Go.Proofs.YtondgoabnmgcaaaW.PrintLast Go.Proofs.YtondgoabnmgcaaaW.PrintMore Go.Proofs.YtondgoabnmgcaaaO.B

theorem shr_is (n : Int) (j : Nat) (hj : j ≤ 7) : shr .u64 n (wrap64 (8 * (j : Int))) = n / 256 ^ j := by
  have hw : wrap64 (8 * (j : Int)) = ((8 * j : Nat) : Int) := by unfold wrap64; omega
  rw [hw]
  unfold shr
  rw [Int.toNat_natCast]
  have hm : min (8 * j) IntKind.u64.bits = 8 * j := by
    have : IntKind.u64.bits = 64 := rfl
    omega
  rw [hm]
  congr 1
  rw [Int.pow_mul]
  rfl
theorem refl0_run (n : Int) (W : Nat) (hW : W ≤ 8) : ∀ (r j : Nat), j + r = W → conventicleref01_Number.l0 (r + 1) n W (le j n) j = some (strOfNums (le W n), 0)
  | 0, j, h => by
    have hj : j = W := by omega
    subst hj
    unfold conventicleref01_Number.l0
    rw [if_neg (by omega)]
  | r + 1, j, h => by
    unfold conventicleref01_Number.l0
    have hw : wrap64 ((j : Int) + 1) = ((j + 1 : Nat) : Int) := by unfold wrap64; omega
    have hw8 : 0 ≤ wrap64 (8 * (j : Int)) := by unfold wrap64; omega
    rw [if_pos (by omega), if_pos hw8, if_pos (by rw [le_length]; omega), hw, shr_is n j (by omega), ← le_snoc]
    exact refl0_run n W hW r (j + 1) (by omega)
theorem refnum_ok (n : Int) (W : Nat) (hf : fits n W = true) : conventicleref01_Number.f (W + 2) n W = some (strOfNums (le W n), 0) := by
  simp only [fits, Bool.and_eq_true, decide_eq_true_eq, Int.toNat_natCast] at hf
  obtain ⟨⟨h1, h8⟩, h3⟩ := hf
  have go : conventicleref01_Number.j0 ((W + 1) + 1) n W false = some (strOfNums (le W n), 0) := by
    unfold conventicleref01_Number.j0
    dsimp only
    rw [if_neg (by decide)]
    exact refl0_run n W (by omega) W 0 (by omega)
  unfold conventicleref01_Number.f
  rw [if_neg (by omega), if_neg (by omega)]
  by_cases h : (W : Int) < 8
  · have hw8 : 0 ≤ wrap64 (8 * (W : Int)) := by unfold wrap64; omega
    rw [if_pos h, if_pos hw8, shr_is n W (by omega), h3]
    exact go
  · rw [if_neg h]
    exact go
theorem refnum_not (n W : Int) (h0 : 0 ≤ n) (h1 : n < 18446744073709551616) (hf : fits n W = false) : conventicleref01_Number.f 1 n W = some (⟨#[]⟩, 1) := by
  have go : conventicleref01_Number.j0 (0 + 1) n W true = some (⟨#[]⟩, 1) := by
    unfold conventicleref01_Number.j0
    dsimp only
    rw [if_pos rfl]
  unfold conventicleref01_Number.f
  by_cases a : W < 1
  · rw [if_pos a]; exact go
  · rw [if_neg a]
    by_cases b : W > 8
    · rw [if_pos b]; exact go
    · rw [if_neg b]
      have h3 : ¬ n / 256 ^ W.toNat = 0 := by
        intro h3
        simp only [fits, decide_eq_true h3, decide_eq_true (show 1 ≤ W by omega), decide_eq_true (show W ≤ 8 by omega)] at hf
        cases hf
      obtain ⟨V, rfl⟩ := Int.eq_ofNat_of_zero_le (show 0 ≤ W by omega)
      rw [Int.toNat_natCast] at h3
      by_cases c : (V : Int) < 8
      · have hw8 : 0 ≤ wrap64 (8 * (V : Int)) := by unfold wrap64; omega
        have hq : 0 ≤ n / 256 ^ V := Int.ediv_nonneg h0 (Int.le_of_lt (Int.pow_pos (by decide)))
        rw [if_pos c, if_pos hw8, shr_is n V (by omega), decide_eq_true (show n / 256 ^ V > 0 by omega)]
        exact go
      · have e : V = 8 := by omega
        subst e
        exact absurd (le_zero n h1 h0) h3
/-- the document's Number, whatever is asked -/
def refStr (n W : Int) : ByteArray := if fits n W then strOfNums (le W.toNat n) else ⟨#[]⟩
def refErr (n W : Int) : Int := if fits n W then 0 else 1
theorem refnumber_at (n W : Int) (h0 : 0 ≤ n) (h1 : n < 18446744073709551616) (w : World) :
    Calls Try.prog 87 #[.int .u64 n, .int .i64 W] w fun e w' => e = .returned (.tuple #[.string (refStr n W), .int .i64 (refErr n W)]) ∧ Below w.heap.size w w' := by
  unfold refStr refErr
  cases hf : fits n W
  · exact conventicleref01_Number.calls 1 n W _ _ w (refnum_not n W h0 h1 hf)
  · have hW : 1 ≤ W ∧ W ≤ 8 := by
      simp only [fits, Bool.and_eq_true, decide_eq_true_eq] at hf
      exact hf.1
    obtain ⟨V, rfl⟩ := Int.eq_ofNat_of_zero_le (show 0 ≤ W by omega)
    exact conventicleref01_Number.calls (V + 2) n V _ _ w (by rw [Int.toNat_natCast]; exact refnum_ok n V hf)
theorem refbits_at (x : Nat) (w : World) : Calls Try.prog 88 #[.float .f64 x] w fun e w' => e = .returned (.int .u64 (rbits x)) ∧ w = w' := by
  have h := ord_self x
  have HB := bits_run x
  unfold rbits
  cases hx : Flt.nan x
  · rw [hx] at h
    simp only [Bool.false_eq_true, if_false]
    go_enter Try.func88, Try.ntmps88
    go_wp2
    go_ret
    exact ⟨rfl, rfl⟩
  · rw [hx] at h
    simp only [if_true]
    go_enter Try.func88, Try.ntmps88
    go_wp2
    go_ret
    exact ⟨rfl, rfl⟩
theorem fits8 (x : Nat) (hx : x < 18446744073709551616) : fits (rbits x) 8 = true := by
  have h1 : rbits x / 256 ^ 8 = 0 := le_zero _ (rbits_lt x hx) (rbits_pos x)
  have e : (8 : Int).toNat = 8 := rfl
  simp only [fits, e, h1]
  rfl
theorem refreal_at (x : Nat) (hx : x < 18446744073709551616) (w : World) : Calls Try.prog 65 #[.float .f64 x] w fun e w' => e = .returned (.string (strOfNums (le 8 (rbits x)))) ∧ Below w.heap.size w w' := by
  have HB := Aside0.mk (refbits_at x)
  have HN := Aside0.mk (fun w => refnumber_at (rbits x) 8 (rbits_pos x) (rbits_lt x hx) w)
  have e1 : refStr (rbits x) 8 = strOfNums (le 8 (rbits x)) := by unfold refStr; rw [fits8 x hx]; rfl
  rw [e1] at HN
  generalize strOfNums (le 8 (rbits x)) = r at HN ⊢
  generalize refErr (rbits x) 8 = er at HN
  generalize rbits x = b at HB HN
  clear e1
  go_enter Try.func65, Try.ntmps65
  go_wp2_with (first
    | (go_at_call 88; (with_reducible refine (HB.out _).mono ?_); rintro e w1 ⟨rfl, rfl⟩)
    | (go_at_call 87; (with_reducible refine (HN.out _).mono ?_); rintro e w2 ⟨rfl, hb⟩; have B := Aside0.mk hb; clear hb))
  go_ret
  exact ⟨rfl, B.out⟩
theorem reftext_at (s : ByteArray) (hs : (s.size : Int) ≤ 65535) (w : World) : Calls Try.prog 64 #[.string s] w fun e w' => e = .returned (.tuple #[.string (strOfNums (le 2 s.size) ++ s), .int .i64 0]) ∧ Below w.heap.size w w' := by
  have hf : fits (s.size : Int) 2 = true := by
    have e : (2 : Int).toNat = 2 := rfl
    have h1 : (s.size : Int) / 256 ^ 2 = 0 := Int.ediv_eq_zero_of_lt (by omega) (by show (s.size : Int) < 65536; omega)
    simp only [fits, e, h1]
    rfl
  have HN := Aside0.mk (fun w => refnumber_at (s.size : Int) 2 (by omega) (by omega) w)
  have e1 : refStr (s.size : Int) 2 = strOfNums (le 2 s.size) := by unfold refStr; rw [hf]; rfl
  have hss : ¬ 9223372036854775807 < (strOfNums (le 2 (s.size : Int))).size + s.size := by rw [strOfNums_size, le_length]; omega
  rw [e1] at HN
  generalize strOfNums (le 2 (s.size : Int)) = r at HN hss ⊢
  generalize refErr (s.size : Int) 2 = er at HN
  have hs' : ¬ (65535 : Int) < s.size := by omega
  clear e1 hf hs
  go_enter Try.func64, Try.ntmps64
  go_wp2_with (go_at_call 87; (with_reducible refine (HN.out _).mono ?_); rintro e w2 ⟨rfl, hb⟩; have B := Aside0.mk hb; clear hb)
  go_ret2
  exact ⟨rfl, B.out⟩
end Go.Proofs.YtondgoabnmgcaaaO.R
end
section
/- By hand: what the reference writes of a real, in the print's form. -/
namespace Go.Proofs.Ytondgoabnmgcaaa.B
open Go.RowKit Go.Proofs.YtondgoabnmgcaaaW.PrintWords Go.Proofs.YtondgoabnmgcaaaW.PrintLast Go.Proofs.YtondgoabnmgcaaaW.PrintMore
open Go.Proofs.YtondgoabnmgcaaaO.R (le rbits refreal_at reftext_at)
set_option linter.unusedVariables false
def conventicleref01_Text.f (s : ByteArray) : Option (ByteArray × Int) := if (s.size : Int) ≤ 65535 then some (strOfNums (le 2 s.size) ++ s, 0) else none
theorem conventicleref01_Text.calls (s : ByteArray) (r1 : ByteArray) (r2 : Int) (w : World) (h : conventicleref01_Text.f s = some (r1, r2)) :
    Calls Try.prog 64 #[.string s] w fun e w' => e = .returned (.tuple #[.string r1, .int .i64 r2]) ∧ Below w.heap.size w w' := by
  unfold conventicleref01_Text.f at h
  by_cases hx : (s.size : Int) ≤ 65535
  · rw [if_pos hx] at h
    obtain ⟨rfl, rfl⟩ := Prod.mk.inj (Option.some.inj h)
    exact reftext_at s hx w
  · rw [if_neg hx] at h; cases h
end Go.Proofs.Ytondgoabnmgcaaa.B
end
section
/- By hand: what each of both readers says, and where it stands then: the same. -/
namespace Go.Proofs.YtondgoabnmgcaaaO.R
open Go.RowKit Go.Proofs.YtondgoabnmgcaaaW.PrintWords Go.Proofs.YtondgoabnmgcaaaW.PrintLast Go.Proofs.YtondgoabnmgcaaaW.PrintMore Go.Proofs.YtondgoabnmgcaaaO.B

/-- what our reader says -/
def Ours (f : Nat) (w0 : World) (s : ByteArray) (p : Int) (more : List Value) (r : Value) (q : Int) : Prop :=
  ∀ g w, IsS63 w0 w g s p → Below w0.heap.size w0 w → Calls Try.prog f (#[.pointer (some ⟨g, 0, none⟩)] ++ more.toArray) w fun e w' => e = .returned r ∧ IsS63 w0 w' g s q ∧ Below w0.heap.size w0 w' ∧ KeepBut w w' g none
theorem real_ours (w0 : World) (s : ByteArray) (p q n er : Int) (k : Nat) (hn : octet_Reader_Number.f k s p 8 = some (n, er, s, q)) :
    Ours 37 w0 s p [] (.tuple #[.float .f64 (rbits n.toNat).toNat, .int .i64 er]) q := by
  intro g w hI hB
  show Calls Try.prog 37 #[.pointer (some ⟨g, 0, none⟩)] w _
  have HN := Aside0.mk (octet_Reader_Number.calls k g s p 8 _ _ _ _ w0 w hI hB hn)
  have HF1 := frombits_run 9221120237041090561
  have HF2 := frombits_run n
  have HI := Aside0.mk (isnan_at n.toNat)
  clear hI hB hn
  unfold rbits
  cases hx : Flt.nan n.toNat
  · rw [hx] at HI
    simp only [Bool.false_eq_true, if_false, Int.toNat_natCast]
    generalize n.toNat = x at HI HF2 ⊢
    clear hx
    go_enter Try.func37, Try.ntmps37
    go_wp2_with (first
      | (go_at_call 75; (with_reducible refine HN.out.mono ?_); rintro e w1 ⟨rfl, hI, hb, hk⟩; have I := Aside0.mk hI; have B := Aside0.mk hb; have KK := Aside0.mk hk; clear hI hb hk)
      | (go_at_call 78; (with_reducible refine (HI.out _).mono ?_); rintro e w2 ⟨rfl, rfl⟩))
    go_ret2
    exact ⟨rfl, I.out, B.out, KK.out⟩
  · rw [hx] at HI
    simp only [if_true]
    generalize n.toNat = x at HI HF2 ⊢
    clear hx
    go_enter Try.func37, Try.ntmps37
    go_wp2_with (first
      | (go_at_call 75; (with_reducible refine HN.out.mono ?_); rintro e w1 ⟨rfl, hI, hb, hk⟩; have I := Aside0.mk hI; have B := Aside0.mk hb; have KK := Aside0.mk hk; clear hI hb hk)
      | (go_at_call 78; (with_reducible refine (HI.out _).mono ?_); rintro e w2 ⟨rfl, rfl⟩))
    go_ret2
    exact ⟨rfl, I.out, B.out, KK.out⟩
end Go.Proofs.YtondgoabnmgcaaaO.R
end
