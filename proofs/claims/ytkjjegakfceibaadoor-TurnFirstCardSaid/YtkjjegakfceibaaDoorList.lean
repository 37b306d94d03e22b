/- By hand: band.List: a range over the iterator that band.nodes hands back, which keeps what is left in a cell of its own. -/
import Derived.Test.YtkjjegakfceibaaDoorTz
import Derived.Test.YtkjjegakfceibaaDoorBits
import Derived.RangeFuncNested
import Derived.RangeFuncBound
import Derived.RangeFuncCalls
import Derived.RangeFuncLeaves
import Derived.RangeFuncBox
import Derived.Shelf.Abstract
import Derived.Shelf.RegionOpen
import Derived.WalkKit
import Derived.OwnWalkIn
import Derived.TacticsInMore
import Derived.LoopNIn
import Derived.LoopIn
import Derived.Maps.AppendAt
namespace Go.Proofs.YtkjjegakfceibaaDoor.B
open Go.RowKit Go.Shelf Go.Proofs.YtkjjegakfceibaaDoorW.PrintWords Go.Proofs.YtkjjegakfceibaaDoorW.PrintLast Go.Proofs.YtkjjegakfceibaaDoorW.PrintMore Go.Proofs.YtkjjegakfceibaaDoor.Band
attribute [local go_sem] Oper.semAt_some

/-- how much is left, read off the cell -/
def leftIn (Bb : Nat) (W : World) : Nat := match W.cell? ⟨Bb, 0, none⟩ with | some (.int _ c) => c.toNat | _ => 0
theorem leftIn_eq {Bb : Nat} {W : World} {c : Nat} (h : W.cell? ⟨Bb, 0, none⟩ = some (.int .u64 c)) : leftIn Bb W = c := by
  unfold leftIn
  rw [h]
  simp
theorem u64_pred (c : Nat) (h0 : c ≠ 0) (hc : c < 18446744073709551616) : IntKind.u64.wrap ((c : Int) - 1) = ((c - 1 : Nat) : Int) := by
  rw [IntKind.wrap_u64]; omega

set_option maxRecDepth 100000 in
set_option maxHeartbeats 1000000 in
/-- The closure: to each round it hands the next node. -/
theorem iter_in (l Bb n₀ : Nat) (J : List Int → World → Prop)
    (hset : ∀ pre W v, J pre W → J pre (W.setCell ⟨Bb, 0, none⟩ v))
    (hY : ∀ pre x W, J pre W → pre.length < 64 → YieldAt Fence.wide 1 Tryd.prog l #[.int .i64 x] W fun e W' => e = .returned (.bool true) ∧ J (pre ++ [x]) W' ∧ Below n₀ W W' ∧ W'.heap[Bb]? = W.heap[Bb]?)
    (hn : 1 < n₀) (hne : n₀ ≤ Bb) (W : World) (c : Nat) (hc : c < 18446744073709551616) (hT : TabT W) (hB : Boxed W Bb 25 (.int .u64 c)) (h0 : J [] W) :
    CallsIn Fence.wide 2 Tryd.prog 83 #[.func (.yield l) #[] #[], .pointer (some ⟨Bb, 0, none⟩)] W fun e W' => (∃ v, e = .returned v) ∧ J (bandL c) W' := by
  refine callsIn_of_wp Tryd.func83 rfl trivial ?_ rfl
  simp only [Tryd.ntmps83, List.size_toArray, List.length_cons, List.length_nil, Nat.reduceAdd, Nat.reduceSub, Array.replicate_succ, Array.replicate_zero, List.push_toArray, List.append_toArray, List.nil_append, List.cons_append]
  have HY := Aside0.mk hY
  have HS := Aside0.mk hset
  have HC := Aside0.mk hc
  have HT := Aside0.mk hT
  have HB := Aside0.mk hB
  have H0 := Aside0.mk h0
  clear hY hset hc hT hB h0
  gi_wp2
  gi_loopw [3] (fun p wr => ∃ (pre : List Int) (d : Nat), Aside0 (bandL c = pre ++ bandL d) ∧ Aside0 (d < 18446744073709551616) ∧ Aside0 (TabT wr) ∧ Aside0 (Boxed wr Bb 25 (.int .u64 d)) ∧ Aside0 (J pre wr))
    (fun p wr => leftIn Bb wr)
  case atStart =>
    exact ⟨[], c, ⟨rfl⟩, HC, HT, HB, H0⟩
  case round =>
    obtain ⟨pre, d, hbl, hd, hTr, hBr, hJr⟩ := hrel
    have hcl := hBr.out.cell
    have hfr := hBr.out.frozen
    by_cases hz : d = 0
    · subst hz
      gi_wp2
      go_end0
      refine ⟨⟨_, rfl⟩, ?_⟩
      have := hbl.out
      rw [bandL_zero, List.append_nil] at this
      rw [this]
      exact hJr.out
    · have hz' := Aside0.mk hz
      have hzi : ((d : Int) == 0) = false := beq_eq_false_iff_ne.2 (by omega)
      have hzi' : ((d : Int) != 0) = true := bne_iff_ne.2 (by omega)
      clear hz
      have hpl : pre.length < 64 := by
        have h1 := congrArg List.length hbl.out
        rw [bandL_step d hz'.out hd.out, List.length_append, List.length_cons] at h1
        have := bandL_length c
        omega
      obtain ⟨fn, tmps, assign, body, hy, hR⟩ := HY.out pre (Lib.ctz 64 d : Int) wr hJr.out hpl
      clear hpl
      gi_wp2_with (refine ⟨trivial, ?_⟩; gi_at_call 84; refine (callsIn_wide.2 (tz_at d hd.out _ hTr.out)).mono ?_; rintro e w' ⟨rfl, rfl⟩)
      refine hR.mono ?_
      rintro e W3 ⟨rfl, hJ3, hk3, hb3⟩
      have hB3 : Aside0 (Boxed W3 Bb 25 (.int .u64 d)) := ⟨hb3.trans hBr.out⟩
      have hc3 := hB3.out.cell
      have hf3 := hB3.out.frozen
      have HJ3 := Aside0.mk hJ3
      have HT3 := Aside0.mk (tab_belowN hTr.out hn hk3)
      have key : bits .and .u64 (d : Int) (IntKind.u64.wrap ((d : Int) - 1)) = ((d &&& (d - 1) : Nat) : Int) := by
        rw [u64_pred d hz'.out hd.out, bits_and_u64_nat d (d - 1) hd.out (by have := hd.out; omega)]
      clear hJ3 hk3 hb3 hcl hfr hy hR
      gi_wp2
      go_roundw
      case rel =>
        have hlow := low_lt d hz'.out
        refine ⟨pre ++ [(Lib.ctz 64 d : Int)], d &&& (d - 1), ⟨?_⟩, ⟨by have := hd.out; omega⟩, ⟨?_⟩, ⟨hB3.out.set _⟩, ⟨HS.out _ _ _ HJ3.out⟩⟩
        · rw [hbl.out, bandL_step d hz'.out hd.out]
          simp
        · exact tab_belowN HT3.out hn ((Below.refl n₀ W3).setCell (p := ⟨Bb, 0, none⟩) hne _)
      case measure =>
        rw [leftIn_eq hBr.out.cell, leftIn_eq (hB3.out.set _).cell]
        exact low_lt d hz'.out

/-- How a round's body ends: what is no cells and lies behind B lies as it lay, the iterator's cell too, and what lay below n₀. -/
def roundEnds (B n₀ Bb : Nat) (I : List Int → World → Prop) (pre : List Int) (W : World) : Exit → Act → World → Prop
  | .normal, _, W' => KeepsFrom B W W' ∧ Below n₀ W W' ∧ W'.heap[Bb]? = W.heap[Bb]? ∧ I pre W'
  | _, _, _ => False

/-- The statement 'for x := range seq { .. }' whose body always goes on, over an iterator with one cell of its own. -/
theorem range_cell {P : Program} {g : Operand} {ps : Array Tmp} {assign body : Code} {Q : Exit → Act → World → Prop} {a : Act} {w : World} {gf : Nat} {lb : Array Value} {xs : List Int} {Bb n₀ : Nat}
    (hg : a.eval g = .func (.func gf) #[] lb) (eg : ∀ args w, (callFunc gf args).run P w = .ok (.enter gf args) w) (hps : ps.size = 1)
    (hiter : ∀ (l : Nat) (J : List Int → World → Prop) (W : World), (∀ pre W v, J pre W → J pre (W.setCell ⟨Bb, 0, none⟩ v)) →
      (∀ pre x W, J pre W → pre.length < 64 → YieldAt Fence.wide 1 P l #[.int .i64 x] W fun e W' => e = .returned (.bool true) ∧ J (pre ++ [x]) W' ∧ Below n₀ W W' ∧ W'.heap[Bb]? = W.heap[Bb]?) →
      Below w.heap.size w W → J [] W →
      CallsIn Fence.wide 2 P gf (#[.func (.yield l) #[] #[]] ++ lb) W fun e W' => (∃ v, e = .returned v) ∧ J xs W')
    (hBb : Bb < w.heap.size) (hn : n₀ ≤ w.heap.size)
    (I : List Int → World → Prop) (hI : OwnFrom w.heap.size I) (hIset : ∀ pre W v, I pre W → I pre (W.setCell ⟨Bb, 0, none⟩ v)) (h0 : I [] w) (a₁ : Int → Act)
    (hassign : ∀ (l : Nat) (x : Int) (W : World) (K : Act → World → Prop), K (a₁ x) W →
      assign.wpIn (Fence.wide.inRound l) 1 P (Exit.then K (fun _ _ _ => False)) { tmps := (ps.zip #[Value.int .i64 x]).foldl (fun t (p, v) => t.setIfInBounds p v) a.tmps, defers := [] } W)
    (hbody : ∀ (l : Nat) (pre : List Int) (x : Int) (W : World), I pre W → pre.length < 64 → body.wpIn (Fence.wide.inRound l) 1 P (roundEnds w.heap.size n₀ Bb I (pre ++ [x]) W) (a₁ x) W)
    (hdone : ∀ (D : Nat) (W : World), w.heap.size ≤ D → I xs W → W.heap[D]? = some (.deferred (some [])) → Q .normal { a with defers := { target := .collected D, args := #[] } :: a.defers } W) :
    (Code.rangeFunc g ps assign body).wpIn Fence.wide 3 P Q a w := by
  refine wpIn_rangeFunc (fun fn hfn => ?_)
  obtain ⟨D, hD⟩ : ∃ D, D = w.heap.size := ⟨_, rfl⟩
  obtain ⟨rc, hrc⟩ : ∃ rc : LoopState → Loop, rc = fun st => { state := st, pending := none, fn, tmps := a.tmps, params := ps, assign, body, defers := D } := ⟨_, rfl⟩
  obtain ⟨W1, hW1⟩ : ∃ W1, (w.alloc (.deferred (some []))).alloc (.loop (rc .ready)) = W1 := ⟨_, rfl⟩
  have hL1 : W1.heap[D + 1]? = some (.loop (rc .ready)) := by
    have := World.alloc_heap_new (w.alloc (.deferred (some []))) (.loop (rc .ready))
    rw [World.size_alloc, ← hD, hW1] at this
    exact this
  have hK1 : W1.heap[D]? = some (.deferred (some [])) := by
    rw [← hW1, hD]
    exact (Below.heap_alloc _ _ _ (by simp)).trans (World.alloc_heap_new w _)
  have hI1 : I [] W1 := by rw [← hW1]; exact hI.alloc _ (hI.alloc _ h0)
  have hb1 : Below w.heap.size w W1 := by rw [← hW1]; exact ((Below.refl _ w).alloc (Nat.le_refl _) _).alloc (by simp) _
  refine ⟨D + 1, [{ target := .collected D, args := #[] }], W1, { target := .fn (.func gf) lb, args := #[.func (.yield (D + 1)) #[] #[]] }, W1, gf,
    #[.func (.yield (D + 1)) #[] #[]] ++ lb, W1, ?_, ?_, fun _ _ => trivial, ?_, fun _ => by omega, ?_⟩
  · rw [← hW1, hrc, hD]
    exact run_enterLoop_outer _ _ _ _ _
  · simp only [resolve, hg]
    simp [go_sem]
  · simp [invoke, go_sem, eg]
  · have hput : ∀ {pre : List Int} {W : World} (o' : Obj), I pre W → W.heap[D + 1]? = some (.loop (rc .ready)) ∨ W.heap[D + 1]? = some (.loop (rc .busy)) → I pre (W.putObj (D + 1) o') := by
      intro pre W o' hi hl
      rcases hl with hl | hl <;> exact hI.putObj o' hi (by omega) hl rfl
    refine (hiter (D + 1) (fun pre W => I pre W ∧ W.heap[D + 1]? = some (.loop (rc .ready)) ∧ W.heap[D]? = some (.deferred (some []))) W1 ?_ ?_ hb1 ⟨hI1, hL1, hK1⟩).mono ?_
    · rintro pre W v ⟨hi, hl, hk⟩
      exact ⟨hIset _ _ _ hi, (Below.heap_setCell W ⟨Bb, 0, none⟩ v (D + 1) (by simp; omega)).trans hl, (Below.heap_setCell W ⟨Bb, 0, none⟩ v D (by simp; omega)).trans hk⟩
    · rintro pre x W ⟨hi, hl, hk⟩ hlen
      have hlt : D + 1 < W.heap.size := (Array.getElem?_eq_some_iff.1 hl).1
      have hy := run_yield (P := P) (args := #[.int .i64 x]) hl (by rw [hrc]; exact hps.symm)
      rw [hrc] at hy
      refine ⟨fn, _, assign, body, hy, roundIn_of_wpIn hfn (hassign _ x W _ ⟨_, run_beginRound hl (by rw [hrc]), ?_⟩)⟩
      have e2 : ({ rc .ready with state := .busy } : Loop) = rc .busy := by rw [hrc]
      rw [e2]
      have hl2 : (W.putObj (D + 1) (.loop (rc .busy))).heap[D + 1]? = some (.loop (rc .busy)) := World.putObj_heap_same hlt
      have hk2 : (W.putObj (D + 1) (.loop (rc .busy))).heap[D]? = some (.deferred (some [])) := (World.putObj_heap_other (by omega)).trans hk
      refine wpIn_mono (hbody _ pre x _ (hput _ hi (.inl hl)) hlen) ?_
      rintro e a3 W3 hp
      cases e <;> first | exact hp.elim | skip
      obtain ⟨hk3, hb3, hc3, hi3⟩ := hp
      have hl3 := hk3.same _ _ (by omega) hl2 rfl
      have hlt3 : D + 1 < W3.heap.size := (Array.getElem?_eq_some_iff.1 hl3).1
      have e3 : ({ rc .busy with state := if (none : Option Code).isNone then .ready else .done, pending := none } : Loop) = rc .ready := by rw [hrc]; rfl
      refine ⟨_, _, run_endRound none hl3, rfl, ⟨hput _ hi3 (.inr hl3), ?_, ?_⟩, ?_, ?_⟩
      · rw [e3]; exact World.putObj_heap_same hlt3
      · exact (World.putObj_heap_other (by omega)).trans (hk3.same _ _ (by omega) hk2 rfl)
      · exact (belowK_b (w := w) hn W _ _ _ (by omega) hl rfl rfl).trans (hb3.trans (belowK_b (w := w) hn W3 _ _ _ (by omega) hl3 rfl rfl))
      · exact (World.putObj_heap_other (by omega)).trans (hc3.trans (World.putObj_heap_other (by omega)))
    · rintro e W2 ⟨⟨v, rfl⟩, hi, hl, hk⟩
      refine ⟨none, W2.putObj (D + 1) (.loop { rc .ready with state := .exhausted }), ?_, hdone D _ (by omega) (hput _ hi (.inl hl)) ((World.putObj_heap_other (by omega)).trans hk)⟩
      have := run_endLoop (P := P) hl (by rw [hrc]; simp)
      rw [this, hrc]

/-- band.nodes: what it holds is boxed; the function value captures the box. -/
theorem nodes_in (b : Int) (w : World) : CallsIn Fence.wide 2 Tryd.prog 69 #[.int .u64 b] w fun e w' => e = .returned (.func (.func 83) #[] #[.pointer (some ⟨w.heap.size, 0, none⟩)]) ∧ w' = w.alloc (.cells #[.int .u64 b] 25) := by
  refine callsIn_of_wp Tryd.func69 rfl trivial ?_ rfl
  simp only [Tryd.ntmps69, List.size_toArray, List.length_cons, List.length_nil, Nat.reduceAdd, Nat.reduceSub, Array.replicate_succ, Array.replicate_zero, List.push_toArray, List.append_toArray, List.nil_append, List.cons_append]
  gi_wp2
  go_ret
  exact ⟨rfl, rfl⟩
theorem info3' : (Tryd.prog.info? 3).map (fun i => (i.zero, i.size, i.bytes)) = some (some (.int .i64 0), 1, 8) := by kernel_rfl

def band_List.f (a0 : Int) : Option (List Int) := if 0 ≤ a0 ∧ a0 < 18446744073709551616 then some (bandL a0.toNat) else none

theorem results_s1 {P : Program} {fn : Func} {p : Tmp} {ty : TypeId} {e : TypeId} (h : fn.results = #[.cell p ty]) (tmps : Array Value) (w : World) (g : Nat) (v : Value)
    (hp : tmps.getD p undef = .pointer (some ⟨g, 0, none⟩)) (hc : w.cell? ⟨g, 0, none⟩ = some v) (hu : P.underlying ty = some (.slice e)) :
    (results fn tmps).run P w = .ok v w := by
  have hp' : tmps[p]?.getD undef = .pointer (some ⟨g, 0, none⟩) := by simpa using hp
  simp [results, h, hp', asAddr, loadVar, isAgg, run_underlying hu, hc]
set_option maxRecDepth 100000 in
set_option maxHeartbeats 2000000 in
theorem list_in (b : Nat) (hb : b < 18446744073709551616) (w : World) (hT : TabT w) :
    CallsIn Fence.wide 3 Tryd.prog 44 #[.int .u64 b] w fun e w' => ∃ v, e = .returned v ∧ w'.ownsRow w.heap.size 3 1 v (bandL b).length ((bandL b).map (Value.int .i64)) ∧ Below w.heap.size w w' := by
  obtain ⟨i0, hi, hz0, hz1, hz2⟩ := info_parts info3'
  refine callsIn_of_wp_marks Tryd.func44 rfl trivial ?_ rfl
  simp only [Tryd.ntmps44, List.size_toArray, List.length_cons, List.length_nil, Nat.reduceAdd, Nat.reduceSub, Array.replicate_succ, Array.replicate_zero, List.push_toArray, List.append_toArray, List.nil_append, List.cons_append]
  gi_wp2_with (refine ⟨trivial, ?_⟩; gi_at_call 69; refine (nodes_in _ _).mono ?_; rintro e w' ⟨rfl, rfl⟩)
  have bO := Boxed.new w 101 (.slice none 0 0)
  have bN := Boxed.new (w.alloc (.cells #[.slice none 0 0] 101)) 25 (.int .u64 b)
  rw [World.size_alloc] at bN
  have hB0 : Below w.heap.size w ((w.alloc (.cells #[.slice none 0 0] 101)).alloc (.cells #[.int .u64 b] 25)) := ((Below.refl _ w).alloc (Nat.le_refl _) _).alloc (by simp) _
  have bO2 := bO.alloc (.cells #[.int .u64 b] 25)
  obtain ⟨W0, hW0⟩ : ∃ W0, (w.alloc (.cells #[.slice none 0 0] 101)).alloc (.cells #[.int .u64 b] 25) = W0 := ⟨_, rfl⟩
  rw [hW0] at bN bO2 hB0 ⊢
  have hs0 : W0.heap.size = w.heap.size + 2 := by rw [← hW0]; simp
  refine range_cell (gf := 83) (lb := #[.pointer (some ⟨w.heap.size + 1, 0, none⟩)]) (xs := bandL b) (Bb := w.heap.size + 1) (n₀ := w.heap.size) rfl (enters_of Tryd.func83 (by kernel_rfl) rfl) rfl
    (fun l J W hset hY hbl h0 => iter_in l (w.heap.size + 1) w.heap.size J hset hY (tab_pos hT) (by omega) W b hb (tab_belowN hT (tab_pos hT) (hB0.trans (hbl.mono hB0.size))) ((hbl.block _ (by omega)).trans bN) h0)
    (by omega) (by omega)
    (fun (pre : List Int) W => ((∃ v, Boxed W w.heap.size 101 v ∧ W.ownsRow w.heap.size 3 1 v pre.length (pre.map (Value.int .i64)) ∧ True) ∧ ∃ u, Boxed W (w.heap.size + 1) 25 u) ∧ Below w.heap.size w W)
    (OwnFrom.and (OwnFrom.and (Own.from (holdsRow_own w.heap.size w.heap.size 101 3 1 (fun (pre : List Int) => pre.length) (fun (pre : List Int) => pre.map (Value.int .i64)) (fun _ _ => True)) _)
      (fun s A B row hs hg hr => by obtain ⟨u, hu⟩ := hs; exact ⟨u, Own.from (boxed_own (w.heap.size + 1) 25 (fun _ : List Int => u)) _ s A B row hu hg hr⟩)) (ownFrom_below (Nat.le_refl _) (by omega)))
    ?set ⟨⟨⟨_, bO2, World.ownsRow_nil _ _ _ _, trivial⟩, _, bN⟩, hB0⟩
    (fun x => { tmps := #[.int .u64 b, undef, .pointer (some ⟨w.heap.size, 0, none⟩), .int .i64 x, .int .u64 b, .func (.func 83) #[] #[.pointer (some ⟨w.heap.size + 1, 0, none⟩)], .int .i64 x, undef, undef, undef, undef, undef], defers := [] }) ?assign ?body ?done
  case set =>
    rintro pre W v ⟨⟨⟨u, hu, hr, -⟩, u2, hN⟩, hB⟩
    exact ⟨⟨⟨u, hu.other (by omega) v, hr.kept (grownBy_setCell' W _ v) (.inr (hN.not_row (by decide) hr).symm), trivial⟩, _, hN.set v⟩, hB.setCell (p := ⟨w.heap.size + 1, 0, none⟩) (by simp) v⟩
  case assign =>
    intro l x W K hK
    gi_wp2
    exact hK
  case body =>
    rintro l pre x W ⟨⟨⟨v, hv, hrow, -⟩, u2, hN⟩, hB⟩ hlt
    have hc := hv.cell
    have hml : 64 ≤ maxLen := by unfold maxLen; omega
    gi_wp2_with (gi_at_builtin; refine wpListIn_append_own _ rfl _ _ 101 rfl w.heap.size 3 i0 (.int .i64 0) 1 8 Tryd.underlying101 hi hz0 hz1 hz2 rfl (by decide) _ _ _ rfl (hrow.alloc _) ⟨W.heap.size, 0, none⟩ 1 1 [.int .i64 x] rfl rfl (cell_one_new _ _ _) (by simp [Value.oneCell']) (by omega) (by omega) (by have := hB.size; simp; omega) ?_; intro v' w1 hown' hgrow _; obtain ⟨g', cap', rfl⟩ := ownsRow_succ hown'; obtain ⟨hv1, hv2, hr2, hk2, hb2⟩ := hv.appended (by decide) hrow hB.size (Nat.le_refl _) hown' hgrow; have hc1 := hv1.cell; have hf1 := hv1.frozen)
    have hN1 := (hN.alloc _).kept hgrow (hN.not_row (by decide) hrow)
    have hN2 := fun u => hN1.other (B' := w.heap.size) (by omega) u
    refine ⟨hk2.from _, hb2, (hN2 _).trans hN.symm, ⟨⟨_, hv2, ?_, trivial⟩, _, hN2 _⟩, hB.trans hb2⟩
    simpa using hr2
  case done =>
    rintro D W hD ⟨⟨⟨v, hv, hrow, -⟩, -⟩, hB⟩ hK
    obtain ⟨A, nn, cc, rfl⟩ : ∃ A nn cc, v = .slice A nn cc := by
      rcases hrow.2 with ⟨rfl, _⟩ | ⟨g, cap, cur, rfl, _, _, _⟩
      · exact ⟨_, _, _, rfl⟩
      · exact ⟨_, _, _, rfl⟩
    have hc := hv.cell
    have hf := hv.frozen
    gi_wp2
    refine ⟨by simp, .inl ⟨_, _, rfl, run_takeDeferred ((Below.heap_setCell W ⟨w.heap.size, 0, none⟩ _ D (by simp; omega)).trans hK), ?_⟩⟩
    have hE : (W.setCell ⟨w.heap.size, 0, none⟩ (.slice A nn cc)).heap[D]? = some (.deferred (some [])) := (Below.heap_setCell W ⟨w.heap.size, 0, none⟩ _ D (by simp; omega)).trans hK
    have hv2 : Boxed ((W.setCell ⟨w.heap.size, 0, none⟩ (.slice A nn cc)).putObj D (.deferred none)) w.heap.size 101 (.slice A nn cc) := (World.putObj_heap_other (by omega)).trans (hv.set _)
    have hr2 := ownsRow_putObj (hrow.kept (grownBy_setCell' W w.heap.size (.slice A nn cc)) (.inr (hv.not_row (by decide) hrow).symm)) (.deferred none) hE rfl
    have hb2 := (hB.setCell (p := ⟨w.heap.size, 0, none⟩) (Nat.le_refl _) (.slice A nn cc)).trans (belowK_b (w := w) (Nat.le_refl _) _ D _ (.deferred none) (by omega) hE rfl rfl)
    exact ⟨_, results_s1 rfl _ _ w.heap.size _ rfl hv2.cell Tryd.underlying101, _, rfl, hr2, hb2⟩
theorem band_List.calls (a0 : Int) (r : List Int) (w : World) (h : band_List.f a0 = some r) (hT : Aside0 (TabT w)) :
    Calls Tryd.prog 44 #[.int .u64 a0] w fun e w' => ∃ v0_ : Value, e = .returned (v0_) ∧ Kd.R (Kd.int .i64) 3 w' w.heap.size (fun _ => True) v0_ r ∧ Below w.heap.size w w' := by
  unfold band_List.f at h
  by_cases hc : 0 ≤ a0 ∧ a0 < 18446744073709551616
  · rw [if_pos hc] at h
    obtain rfl := Option.some.inj h
    have := callsIn_wide.1 (list_in a0.toNat (by omega) w hT.out)
    rw [show ((a0.toNat : Nat) : Int) = a0 from Int.toNat_of_nonneg hc.1] at this
    refine this.mono ?_
    rintro e w' ⟨v, rfl, hr, hb⟩
    exact ⟨v, rfl, Kd.R_of_own hr (fun _ _ => trivial), hb⟩
  · rw [if_neg hc] at h
    cases h
end Go.Proofs.YtkjjegakfceibaaDoor.B
