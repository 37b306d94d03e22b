/- By hand: letter.May of a letter without news, pieces, spans (printed by mays.py). -/
import Derived.Test.YtkjjegakfceibaaDoorSmall
namespace Go.Proofs.YtkjjegakfceibaaDoor.B
open Go.RowKit Go.Proofs.YtkjjegakfceibaaDoorW.PrintWords Go.Proofs.YtkjjegakfceibaaDoorW.PrintLast Go.Proofs.YtkjjegakfceibaaDoorW.PrintMore
set_option linter.unusedSimpArgs false
set_option linter.unusedVariables false
theorem node_yes (n : Int) (w : World) (h : 0 ≤ n ∧ n < 64) : Calls Tryd.prog 58 #[.int .i64 n] w fun e w' => e = .returned (.bool true) ∧ Below w.heap.size w w' := by
  have h0 := h.1
  have h1 := h.2
  clear h
  go_enter Tryd.func58, Tryd.ntmps58
  go_wp2
  all_goals
    go_ret
    refine ⟨?_, Below.refl _ _⟩
    first | (simp_all; done) | (simp_all; omega)
theorem upd_none (F : Value) (w : World) : Calls Tryd.prog 80 #[.slice none 0 0, F] w fun e w' => e = .returned (.int .i64 (-1)) ∧ Below w.heap.size w w' := by
  go_enter Tryd.func80, Tryd.ntmps80
  go_wp2
  go_loopw [8] (fun i wr => i = .int .i64 0 ∧ wr = w) (fun _ _ => 0)
  case atStart => exact ⟨rfl, rfl⟩
  case round =>
    obtain ⟨rfl, rfl⟩ := hrel
    go_wp2
    go_ret
    exact ⟨rfl, Below.refl _ _⟩
theorem upd_nothing (F : Value) (w : World) : Calls Tryd.prog 59 #[.slice none 0 0, F] w fun e w' => e = .returned (.bool false) ∧ Below w.heap.size w w' := by
  go_enter Tryd.func59, Tryd.ntmps59
  go_wp2_with (go_at_call 80; refine (upd_none F _).mono ?_; rintro e w2 ⟨rfl, hb⟩; have HB := Aside0.mk hb; clear hb)
  go_ret
  exact ⟨rfl, HB.out⟩
theorem pc_none (F : Value) (w : World) : Calls Tryd.prog 81 #[.slice none 0 0, F] w fun e w' => e = .returned (.int .i64 (-1)) ∧ Below w.heap.size w w' := by
  go_enter Tryd.func81, Tryd.ntmps81
  go_wp2
  go_loopw [8] (fun i wr => i = .int .i64 0 ∧ wr = w) (fun _ _ => 0)
  case atStart => exact ⟨rfl, rfl⟩
  case round =>
    obtain ⟨rfl, rfl⟩ := hrel
    go_wp2
    go_ret
    exact ⟨rfl, Below.refl _ _⟩
theorem pc_nothing (F : Value) (w : World) : Calls Tryd.prog 60 #[.slice none 0 0, F] w fun e w' => e = .returned (.bool false) ∧ Below w.heap.size w w' := by
  go_enter Tryd.func60, Tryd.ntmps60
  go_wp2_with (go_at_call 81; refine (pc_none F _).mono ?_; rintro e w2 ⟨rfl, hb⟩; have HB := Aside0.mk hb; clear hb)
  go_ret
  exact ⟨rfl, HB.out⟩
theorem bits_run (b : Nat) (w : World) : (callFunc 73 #[.float .f64 b]).run Tryd.prog w = .ok (.value (.int .u64 (b : Int))) w := by
  rw [run_callFunc_extern Tryd.func73 (by kernel_rfl) (by kernel_rfl) (by kernel_rfl) (e := Extern.MathFloatBits.float64bits) (by kernel_rfl)]
  rfl
theorem sign_zero (w : World) : Calls Tryd.prog 62 #[.float .f64 0] w fun e w' => e = .returned (.bool false) ∧ Below w.heap.size w w' := by
  have HF := bits_run 0
  go_enter Tryd.func62, Tryd.ntmps62
  go_wp2
  go_ret
  exact ⟨rfl, Below.refl _ _⟩
theorem geq_zero (w : World) : (binOp .geq 38 (.float .f64 0) (.float .f64 0)).run Tryd.prog w = .ok (.bool true) w := by kernel_rfl
set_option maxRecDepth 100000 in
set_option maxHeartbeats 4000000 in
theorem may_yes (k f t sq vi vm b od ni nm cut : Int) (w : World) (hk : 1 ≤ k ∧ k ≤ 14) (hf : 0 ≤ f ∧ f < 64) (ht : 0 ≤ t ∧ t < 64) :
    Calls Tryd.prog 30 #[.agg #[.int .i64 k, .int .i64 f, .int .i64 t, .int .u64 sq, .int .i64 0, .slice none 0 0, .int .u64 vi, .int .u64 vm, .int .u64 b, .int .u64 od, .int .u64 ni, .int .u64 nm, .int .u64 cut, .slice none 0 0, .slice none 0 0, .float .f64 0]] w fun e w' => e = .returned (.bool true) ∧ Below w.heap.size w w' := by
  have k0 := hk.1
  have k1 := hk.2
  have HF := Aside0.mk hf
  have HT := Aside0.mk ht
  clear hk hf ht
  have HZ : Aside0 ((0 : Int) ≤ 0 ∧ (0 : Int) < 64) := ⟨by decide⟩
  have HG := geq_zero
  have HS : Aside0 (span_May.f 1 [] = some true) := ⟨rfl⟩
  go_enter Tryd.func30, Tryd.ntmps30
  go_wp2_with (first
    | ((with_reducible refine gate_dst (N := 1) rfl ?_); refine box_event ?hg (N := 1) ?hd (cs := #[.int .i64 k, .int .i64 f, .int .i64 t, .int .u64 sq, .int .i64 0, .slice none 0 0, .int .u64 vi, .int .u64 vm, .int .u64 b, .int .u64 od, .int .u64 ni, .int .u64 nm, .int .u64 cut, .slice none 0 0, .slice none 0 0, .float .f64 0]) (t := 40) ?hr ?_; (case hd => rfl); (case hg => rfl); (case hr => first | (go_simp; done) | (go_simp; rfl)); intro g1 hg_ w1 hb_ hB_; have KL := Aside0.mk hb_; have B := Aside0.mk hB_; have x0 := fun j => blk_cell KL.out j; clear hg_ hb_ hB_)
    | (go_at_call 58; refine (node_yes f _ HF.out).mono ?_; rintro e wa ⟨rfl, hb⟩; clear x0; replace KL := Aside0.mk (blk_below KL.out hb); replace B := Aside0.mk (below_step B.out hb); have x0 := fun j => blk_cell KL.out j; clear hb HF)
    | (go_at_call 58; refine (node_yes t _ HT.out).mono ?_; rintro e wb ⟨rfl, hb⟩; clear x0; replace KL := Aside0.mk (blk_below KL.out hb); replace B := Aside0.mk (below_step B.out hb); have x0 := fun j => blk_cell KL.out j; clear hb HT)
    | (go_at_call 58; refine (node_yes 0 _ HZ.out).mono ?_; rintro e wc ⟨rfl, hb⟩; clear x0; replace KL := Aside0.mk (blk_below KL.out hb); replace B := Aside0.mk (below_step B.out hb); have x0 := fun j => blk_cell KL.out j; clear hb)
    | (go_at_call 59; refine (upd_nothing _ _).mono ?_; rintro e wd ⟨rfl, hb⟩; clear x0; replace KL := Aside0.mk (blk_below KL.out hb); replace B := Aside0.mk (below_step B.out hb); have x0 := fun j => blk_cell KL.out j; clear hb)
    | (go_at_call 60; refine (pc_nothing _ _).mono ?_; rintro e we ⟨rfl, hb⟩; clear x0; replace KL := Aside0.mk (blk_below KL.out hb); replace B := Aside0.mk (below_step B.out hb); have x0 := fun j => blk_cell KL.out j; clear hb)
    | (go_at_call 61; refine (span_May.calls 1 none 0 [] true _ (Kd.C_nil _ _) (Nat.le_refl _) HS.out).mono ?_; rintro e wf ⟨rfl, hb⟩; clear x0; replace KL := Aside0.mk (blk_below KL.out hb); replace B := Aside0.mk (below_step B.out hb); have x0 := fun j => blk_cell KL.out j; clear hb)
    | (go_at_call 62; refine (sign_zero _).mono ?_; rintro e wg ⟨rfl, hb⟩; clear x0; replace KL := Aside0.mk (blk_below KL.out hb); replace B := Aside0.mk (below_step B.out hb); have x0 := fun j => blk_cell KL.out j; clear hb))
  all_goals
    go_ret
    refine ⟨?_, B.out⟩
    first | rfl | (simp_all; done) | (simp_all; omega)
end Go.Proofs.YtkjjegakfceibaaDoor.B
