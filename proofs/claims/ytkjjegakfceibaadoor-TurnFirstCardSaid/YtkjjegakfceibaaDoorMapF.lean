/- By hand: a map from numbers to functions: made, put into, looked up (printed by mapf.py). -/
import Derived.Test.YtkjjegakfceibaaDoorPrep
import Derived.MapKept
namespace Go.Proofs.YtkjjegakfceibaaDoor.B
open Go.RowKit Go.Proofs.YtkjjegakfceibaaDoorW.PrintWords Go.Proofs.YtkjjegakfceibaaDoorW.PrintLast Go.Proofs.YtkjjegakfceibaaDoorW.PrintMore
set_option linter.unusedSimpArgs false
set_option linter.unusedVariables false
open Go.MapKept (run_checkKey run_findKey IsKey)
theorem run_put83 (w : World) (r : Nat) (es : Array MapEntry) (clock : Nat) (n : Int) (val : Value) (hb : w.heap[r]? = some (.map es clock)) (hf : Instr.findNow (.int .i64) (.int .i64 n) es.toList 0 = some none) :
    (Instr.mapUpdate 83 (.map (some r)) (.int .i64 n) val).run Tryd.prog w = .ok () { w with heap := w.heap.setIfInBounds r (.map (es.push { key := .int .i64 n, val := val, born := clock }) (clock + 1)) } := by
  unfold Instr.mapUpdate
  simp only [Sem.run_bind, run_underlying Tryd.underlying83, Result.andThen, Go.MapKept.run_getObj_map hb, run_checkKey (P := Tryd.prog) (kt := 3) (d := .int .i64) Tryd.underlying3 (show IsKey (.int .i64) (.int .i64 n) from rfl), run_findKey (P := Tryd.prog) (kt := 3) Tryd.underlying3 hf, Go.MapKept.run_setObj_map _ hb]
theorem map_event {ops : Array Oper} {rest : List Oper} {o : Oper} {a : Act} {W : World} {Q : Exit → Act → World → Prop} (hgd : o.guard = none) {N : Tmp} (ho : o.op = .makeMap 83 none)
    (h : ∀ r, r = W.heap.size → ∀ w1, w1.heap[r]? = some (.map #[] 0) → Below W.heap.size W w1 → wpList Tryd.prog ops Q rest (a.put o.dst (.map (some r))) w1) : wpList Tryd.prog ops Q (o :: rest) a W := by
  refine Kd.event_run hgd ?_ (h _ rfl _ (blk_new W _) (below_alloc (Below.refl _ _) _))
  unfold execOp
  simp only [ho]
  rfl
theorem gate_insert {ops : Array Oper} {rest : List Oper} {o : Oper} {a : Act} {W : World} {Q : Exit → Act → World → Prop} (n : Int) {m x : Operand} (ho : o.op = .insert 83 m (.const (.int .i64 n)) x) (h : wpList Tryd.prog ops Q (o :: rest) a W) : wpList Tryd.prog ops Q (o :: rest) a W := h
theorem insert_event {ops : Array Oper} {rest : List Oper} {o : Oper} {a : Act} {W : World} {Q : Exit → Act → World → Prop} (hgd : o.guard = none) {m x : Operand} (n : Int) (ho : o.op = .insert 83 m (.const (.int .i64 n)) x) (r : Nat) (hm : a.eval m = .map (some r)) (val : Value) (hx : a.eval x = val) (es : Array MapEntry) (clock : Nat)
    (hb : W.heap[r]? = some (.map es clock)) (hf : Instr.findNow (.int .i64) (.int .i64 n) es.toList 0 = some none)
    (h : ∀ w1, w1.heap[r]? = some (.map (es.push { key := .int .i64 n, val := val, born := clock }) (clock + 1)) → Below r W w1 → (∀ i, i ≠ r → w1.heap[i]? = W.heap[i]?) → wpList Tryd.prog ops Q rest (a.put o.dst undef) w1) : wpList Tryd.prog ops Q (o :: rest) a W := by
  have hlt := blk_lt hb
  refine wpList_plain hgd fun K hK => ?_
  have hrun : (execOp a.eval o).run Tryd.prog W = .ok .skip { W with heap := W.heap.setIfInBounds r (.map (es.push { key := .int .i64 n, val := val, born := clock }) (clock + 1)) } := by
    unfold execOp
    have e : a.eval (.const (.int .i64 n)) = .int .i64 n := rfl
    simp only [ho, hm, hx, e, Sem.run_bind, run_put83 W r es clock n val hb hf, Result.andThen_ok, Sem.run_pure]
  unfold Oper.wp
  rw [hrun]
  exact hK _ _ (h _ (by simp [hlt]) ⟨rfl, rfl, rfl, by simp, fun k hk => by simp [show r ≠ k by omega]⟩ (fun i hi => by simp [Ne.symm hi]))
theorem lookup_event {ops : Array Oper} {rest : List Oper} {o : Oper} {a : Act} {W : World} {Q : Exit → Act → World → Prop} (hgd : o.guard = none) {m x : Operand} (ho : o.op = .lookup 83 m x true) (r : Nat) (hm : a.eval m = .map (some r)) (n : Int) (hx : a.eval x = .int .i64 n) (es : Array MapEntry) (clock : Nat)
    (hb : W.heap[r]? = some (.map es clock)) (j : Nat) (val : Value) (hf : Instr.findNow (.int .i64) (.int .i64 n) es.toList 0 = some (some (j, val)))
    (h : wpList Tryd.prog ops Q rest (a.put o.dst (.tuple #[val, .bool true])) W) : wpList Tryd.prog ops Q (o :: rest) a W := by
  refine Kd.event_run hgd ?_ h
  unfold execOp
  simp only [ho, hm, hx, Instr.lookup, Sem.run_bind, run_underlying Tryd.underlying83, Result.andThen, Go.MapKept.run_getObj_map hb, run_checkKey (P := Tryd.prog) (kt := 3) (d := .int .i64) Tryd.underlying3 (show IsKey (.int .i64) (.int .i64 n) from rfl), run_findKey (P := Tryd.prog) (kt := 3) Tryd.underlying3 hf, Sem.run_pure]
  rfl
def TS.freeze (s : TS) (r : Int) : TS := if s.fr = true then s else { s with fr := true, rc := r }
theorem freeze_at (w : World) (g : Nat) (s : TS) (r : Int) (hT : TB w g s) : Calls Tryd.prog 31 #[.pointer (some ⟨g, 0, none⟩), .int .u64 r] w fun e w' => (∃ v, e = .returned v) ∧ TB w' g (s.freeze r) ∧ KeepBut w w' g none := by
  unfold TS.freeze
  cases hf : s.fr
  · refine (freeze_new w g s r hT hf).mono ?_
    rintro e w' ⟨h1, h2, h3⟩
    exact ⟨h1, by simpa using h2, h3⟩
  · refine (freeze_old w g s r hT hf).mono ?_
    rintro e w' ⟨h1, h2, h3⟩
    exact ⟨h1, by simpa using h2, KeepBut.of_below h3 g none⟩
end Go.Proofs.YtkjjegakfceibaaDoor.B
