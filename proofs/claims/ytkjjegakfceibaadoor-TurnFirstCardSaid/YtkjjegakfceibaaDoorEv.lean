/- By hand: what makes memory: a turn, a wish, a slice of one letter (printed by ev.py). -/
import Derived.Test.YtkjjegakfceibaaDoorSmall
namespace Go.Proofs.YtkjjegakfceibaaDoor.B
open Go.RowKit Go.Proofs.YtkjjegakfceibaaDoorW.PrintWords Go.Proofs.YtkjjegakfceibaaDoorW.PrintLast Go.Proofs.YtkjjegakfceibaaDoorW.PrintMore
set_option linter.unusedSimpArgs false
set_option linter.unusedVariables false
theorem built_T (me vi vm : Int) : Tryd.prog.built 81 [(1, .int .i64 me), (2, .agg #[.int .u64 vi, .int .u64 vm])] = some (tc (newT me vi vm)) := by kernel_rfl
theorem build_T {ops : Array Oper} {rest : List Oper} {o : Oper} {a : Act} {w : World} {Q : Exit → Act → World → Prop} (hg : o.guard = none) (x y : Operand) (ho : o.op = .build 81 #[(1, x), (2, y)]) (me vi vm : Int)
    (hx : a.eval x = .int .i64 me) (hy : a.eval y = .agg #[.int .u64 vi, .int .u64 vm]) (h : wpList Tryd.prog ops Q rest (a.put o.dst (.agg (tc (newT me vi vm)))) w) : wpList Tryd.prog ops Q (o :: rest) a w := by
  have e : (Array.map (fun q : Nat × Operand => (q.1, a.eval q.2)) #[(1, x), (2, y)]).toList = [(1, .int .i64 me), (2, .agg #[.int .u64 vi, .int .u64 vm])] := by simp [hx, hy]
  refine wpList_build hg 81 _ ho ?_ ?_
  · rw [e, built_T]; rfl
  · rw [e, built_T]; exact h
/-- the cells of a new wish -/
def wishC (b sn lv jn : Int) : List Value := [.int .u64 b, .int .u64 sn, .int .u64 lv, .int .u64 jn, .int .u64 0] ++ List.replicate 192 (.int .u64 0) ++ [.int .u64 0, .bool false, .int .u64 0, .int .u64 0, .int .u64 0]
theorem built_W (b sn lv jn : Int) : Tryd.prog.built 79 [(0, .int .u64 b), (1, .int .u64 sn), (2, .int .u64 lv), (3, .int .u64 jn)] = some (wishC b sn lv jn).toArray := by kernel_rfl
def putAll : Array Value → Nat → List Value → Array Value
  | cs, _, [] => cs
  | cs, o, v :: vs => putAll (cs.setIfInBounds o v) (o + 1) vs
theorem putAll_W (s : TS) (b sn lv jn : Int) : putAll (tc s) 9 (wishC b sn lv jn) = tc { s with wb := b, seen := sn, live := lv, joins := jn, heard := 0, far := 0, asked := false, wm := 0, wc := 0, taken := 0 } := by kernel_rfl
theorem blk_setCells {g : Nat} {t : TypeId} : ∀ (vs : List Value) (o : Nat) (w : World) (cs : Array Value), w.heap[g]? = some (.cells cs t (0, 0)) → (w.setCells g o vs).heap[g]? = some (.cells (putAll cs o vs) t (0, 0))
  | [], _, _, _, h => h
  | v :: vs, o, w, cs, h => blk_setCells vs (o + 1) (w.setCell ⟨g, o, none⟩ v) _ (blk_set h o v)
theorem keep_setCells {w0 : World} {g : Nat} : ∀ (vs : List Value) (o : Nat) (w : World), KeepBut w0 w g none → KeepBut w0 (w.setCells g o vs) g none
  | [], _, _, h => h
  | v :: vs, o, w, h => keep_setCells vs (o + 1) _ (h.set_ o v)
theorem wish_size (b sn lv jn : Int) : (wishC b sn lv jn).toArray.size = 202 := by kernel_rfl
theorem wish_one (b sn lv jn : Int) : (wishC b sn lv jn).toArray.all (·.oneCell') = true := by kernel_rfl
theorem slice_run (k f t sq vi vm b od ni nm cut : Int) (w : World) : (Instr.buildSlice 31 1 #[(0, .agg #[.int .i64 k, .int .i64 f, .int .i64 t, .int .u64 sq, .int .i64 0, .slice none 0 0, .int .u64 vi, .int .u64 vm, .int .u64 b, .int .u64 od, .int .u64 ni, .int .u64 nm, .int .u64 cut, .slice none 0 0, .slice none 0 0, .float .f64 0])]).run Tryd.prog w = .ok (.slice (some ⟨w.heap.size, 0, none⟩) 1 1) (w.alloc (.cells #[.int .i64 k, .int .i64 f, .int .i64 t, .int .u64 sq, .int .i64 0, .slice none 0 0, .int .u64 vi, .int .u64 vm, .int .u64 b, .int .u64 od, .int .u64 ni, .int .u64 nm, .int .u64 cut, .slice none 0 0, .slice none 0 0, .float .f64 0] 40 (0, 0))) := by kernel_rfl
theorem slice_event {ops : Array Oper} {rest : List Oper} {o : Oper} {a : Act} {W : World} {Q : Exit → Act → World → Prop} (hgd : o.guard = none) {x : Operand} (ho : o.op = .buildSlice 31 1 #[(0, x)]) (k f t sq vi vm b od ni nm cut : Int) (hx : a.eval x = .agg #[.int .i64 k, .int .i64 f, .int .i64 t, .int .u64 sq, .int .i64 0, .slice none 0 0, .int .u64 vi, .int .u64 vm, .int .u64 b, .int .u64 od, .int .u64 ni, .int .u64 nm, .int .u64 cut, .slice none 0 0, .slice none 0 0, .float .f64 0])
    (h : ∀ g, g = W.heap.size → ∀ w1, w1.heap[g]? = some (.cells #[.int .i64 k, .int .i64 f, .int .i64 t, .int .u64 sq, .int .i64 0, .slice none 0 0, .int .u64 vi, .int .u64 vm, .int .u64 b, .int .u64 od, .int .u64 ni, .int .u64 nm, .int .u64 cut, .slice none 0 0, .slice none 0 0, .float .f64 0] 40 (0, 0)) → Below W.heap.size W w1 → wpList Tryd.prog ops Q rest (a.put o.dst (.slice (some ⟨g, 0, none⟩) 1 1)) w1) : wpList Tryd.prog ops Q (o :: rest) a W := by
  refine Kd.event_run hgd ?_ (h _ rfl _ (blk_new W _) (below_alloc (Below.refl _ _) _))
  unfold execOp
  have e : Array.map (fun q : Nat × Operand => (q.1, a.eval q.2)) #[(0, x)] = #[(0, .agg #[.int .i64 k, .int .i64 f, .int .i64 t, .int .u64 sq, .int .i64 0, .slice none 0 0, .int .u64 vi, .int .u64 vm, .int .u64 b, .int .u64 od, .int .u64 ni, .int .u64 nm, .int .u64 cut, .slice none 0 0, .slice none 0 0, .float .f64 0])] := by simp [hx]
  simp only [ho, e, Sem.run_bind, slice_run, Result.andThen_ok, Sem.run_pure]
end Go.Proofs.YtkjjegakfceibaaDoor.B
