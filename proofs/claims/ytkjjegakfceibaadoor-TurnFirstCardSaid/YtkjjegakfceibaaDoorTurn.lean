/- By hand: turn.Turn as a state (its promises are none, or nothing promised): printed by turn.py. -/
import Derived.Test.YtkjjegakfceibaaDoorB3
import Derived.Test.YtkjjegakfceibaaDoorList
import Derived.Deep.MidRow
import Derived.Laws.CopyOwn
namespace Go.Proofs.YtkjjegakfceibaaDoor.B
open Go.RowKit Go.Proofs.YtkjjegakfceibaaDoorW.PrintWords Go.Proofs.YtkjjegakfceibaaDoorW.PrintLast Go.Proofs.YtkjjegakfceibaaDoorW.PrintMore
set_option linter.unusedVariables false
structure TS where
  top : Int
  ob : Int
  om : Int
  oc : Int
  me : Int
  vi : Int
  vm : Int
  fr : Bool
  rc : Int
  wb : Int
  seen : Int
  live : Int
  joins : Int
  heard : Int
  far : Int
  asked : Bool
  wm : Int
  wc : Int
  taken : Int
  done : Bool
  dm : Int
  dc : Int
  told : Bool
def tc (s : TS) : Array Value := ⟨[.int .u64 s.top, .int .u64 s.ob, .int .u64 s.om, .int .u64 s.oc, .int .i64 s.me, .int .u64 s.vi, .int .u64 s.vm, .bool s.fr, .int .u64 s.rc, .int .u64 s.wb, .int .u64 s.seen, .int .u64 s.live, .int .u64 s.joins, .int .u64 s.heard] ++ List.replicate 192 (.int .u64 0) ++ [.int .u64 s.far, .bool s.asked, .int .u64 s.wm, .int .u64 s.wc, .int .u64 s.taken, .bool s.done, .int .u64 s.dm, .int .u64 s.dc, .bool s.told]⟩
theorem tc_size (s : TS) : (tc s).size = 215 := by kernel_rfl
theorem tc_top (s : TS) : (tc s)[0]? = some (.int .u64 s.top) := by kernel_rfl
theorem st_top (s : TS) (x : Int) : (tc s).setIfInBounds 0 (.int .u64 x) = tc { s with top := x } := by kernel_rfl
theorem tc_ob (s : TS) : (tc s)[1]? = some (.int .u64 s.ob) := by kernel_rfl
theorem st_ob (s : TS) (x : Int) : (tc s).setIfInBounds 1 (.int .u64 x) = tc { s with ob := x } := by kernel_rfl
theorem tc_om (s : TS) : (tc s)[2]? = some (.int .u64 s.om) := by kernel_rfl
theorem st_om (s : TS) (x : Int) : (tc s).setIfInBounds 2 (.int .u64 x) = tc { s with om := x } := by kernel_rfl
theorem tc_oc (s : TS) : (tc s)[3]? = some (.int .u64 s.oc) := by kernel_rfl
theorem st_oc (s : TS) (x : Int) : (tc s).setIfInBounds 3 (.int .u64 x) = tc { s with oc := x } := by kernel_rfl
theorem tc_me (s : TS) : (tc s)[4]? = some (.int .i64 s.me) := by kernel_rfl
theorem st_me (s : TS) (x : Int) : (tc s).setIfInBounds 4 (.int .i64 x) = tc { s with me := x } := by kernel_rfl
theorem tc_vi (s : TS) : (tc s)[5]? = some (.int .u64 s.vi) := by kernel_rfl
theorem st_vi (s : TS) (x : Int) : (tc s).setIfInBounds 5 (.int .u64 x) = tc { s with vi := x } := by kernel_rfl
theorem tc_vm (s : TS) : (tc s)[6]? = some (.int .u64 s.vm) := by kernel_rfl
theorem st_vm (s : TS) (x : Int) : (tc s).setIfInBounds 6 (.int .u64 x) = tc { s with vm := x } := by kernel_rfl
theorem tc_fr (s : TS) : (tc s)[7]? = some (.bool s.fr) := by kernel_rfl
theorem st_fr (s : TS) (x : Bool) : (tc s).setIfInBounds 7 (.bool x) = tc { s with fr := x } := by kernel_rfl
theorem tc_rc (s : TS) : (tc s)[8]? = some (.int .u64 s.rc) := by kernel_rfl
theorem st_rc (s : TS) (x : Int) : (tc s).setIfInBounds 8 (.int .u64 x) = tc { s with rc := x } := by kernel_rfl
theorem tc_wb (s : TS) : (tc s)[9]? = some (.int .u64 s.wb) := by kernel_rfl
theorem st_wb (s : TS) (x : Int) : (tc s).setIfInBounds 9 (.int .u64 x) = tc { s with wb := x } := by kernel_rfl
theorem tc_seen (s : TS) : (tc s)[10]? = some (.int .u64 s.seen) := by kernel_rfl
theorem st_seen (s : TS) (x : Int) : (tc s).setIfInBounds 10 (.int .u64 x) = tc { s with seen := x } := by kernel_rfl
theorem tc_live (s : TS) : (tc s)[11]? = some (.int .u64 s.live) := by kernel_rfl
theorem st_live (s : TS) (x : Int) : (tc s).setIfInBounds 11 (.int .u64 x) = tc { s with live := x } := by kernel_rfl
theorem tc_joins (s : TS) : (tc s)[12]? = some (.int .u64 s.joins) := by kernel_rfl
theorem st_joins (s : TS) (x : Int) : (tc s).setIfInBounds 12 (.int .u64 x) = tc { s with joins := x } := by kernel_rfl
theorem tc_heard (s : TS) : (tc s)[13]? = some (.int .u64 s.heard) := by kernel_rfl
theorem st_heard (s : TS) (x : Int) : (tc s).setIfInBounds 13 (.int .u64 x) = tc { s with heard := x } := by kernel_rfl
theorem tc_far (s : TS) : (tc s)[206]? = some (.int .u64 s.far) := by kernel_rfl
theorem st_far (s : TS) (x : Int) : (tc s).setIfInBounds 206 (.int .u64 x) = tc { s with far := x } := by kernel_rfl
theorem tc_asked (s : TS) : (tc s)[207]? = some (.bool s.asked) := by kernel_rfl
theorem st_asked (s : TS) (x : Bool) : (tc s).setIfInBounds 207 (.bool x) = tc { s with asked := x } := by kernel_rfl
theorem tc_wm (s : TS) : (tc s)[208]? = some (.int .u64 s.wm) := by kernel_rfl
theorem st_wm (s : TS) (x : Int) : (tc s).setIfInBounds 208 (.int .u64 x) = tc { s with wm := x } := by kernel_rfl
theorem tc_wc (s : TS) : (tc s)[209]? = some (.int .u64 s.wc) := by kernel_rfl
theorem st_wc (s : TS) (x : Int) : (tc s).setIfInBounds 209 (.int .u64 x) = tc { s with wc := x } := by kernel_rfl
theorem tc_taken (s : TS) : (tc s)[210]? = some (.int .u64 s.taken) := by kernel_rfl
theorem st_taken (s : TS) (x : Int) : (tc s).setIfInBounds 210 (.int .u64 x) = tc { s with taken := x } := by kernel_rfl
theorem tc_done (s : TS) : (tc s)[211]? = some (.bool s.done) := by kernel_rfl
theorem st_done (s : TS) (x : Bool) : (tc s).setIfInBounds 211 (.bool x) = tc { s with done := x } := by kernel_rfl
theorem tc_dm (s : TS) : (tc s)[212]? = some (.int .u64 s.dm) := by kernel_rfl
theorem st_dm (s : TS) (x : Int) : (tc s).setIfInBounds 212 (.int .u64 x) = tc { s with dm := x } := by kernel_rfl
theorem tc_dc (s : TS) : (tc s)[213]? = some (.int .u64 s.dc) := by kernel_rfl
theorem st_dc (s : TS) (x : Int) : (tc s).setIfInBounds 213 (.int .u64 x) = tc { s with dc := x } := by kernel_rfl
theorem tc_told (s : TS) : (tc s)[214]? = some (.bool s.told) := by kernel_rfl
theorem st_told (s : TS) (x : Bool) : (tc s).setIfInBounds 214 (.bool x) = tc { s with told := x } := by kernel_rfl
/-- block g is the turn s -/
def TB (w : World) (g : Nat) (s : TS) : Prop := w.heap[g]? = some (.cells (tc s) 81 (0, 0))
/-- a new turn -/
def newT (me vi vm : Int) : TS := ⟨0, 0, 0, 0, me, vi, vm, false, 0, 0, 0, 0, 0, 0, 0, false, 0, 0, 0, false, 0, 0, false⟩
/-- a letter without news, pieces, spans -/
def LV (k f t sq vi vm b od ni nm cut : Int) : Array Value := #[.int .i64 k, .int .i64 f, .int .i64 t, .int .u64 sq, .int .i64 0, .slice none 0 0, .int .u64 vi, .int .u64 vm, .int .u64 b, .int .u64 od, .int .u64 ni, .int .u64 nm, .int .u64 cut, .slice none 0 0, .slice none 0 0, .float .f64 0]
/-- all stays but block g, and what is said outside (stronger than the kit's word of this name) -/
def KeepBut (w w' : World) (g : Nat) (row : Option Nat) : Prop := w.heap.size ≤ w'.heap.size ∧ (∀ i, i < w.heap.size → i ≠ g → some i ≠ row → w'.heap[i]? = w.heap[i]?) ∧ w'.os = w.os ∧ w'.tape = w.tape ∧ w'.output = w.output
theorem KeepBut.k {w w' : World} {g : Nat} {row : Option Nat} (h : KeepBut w w' g row) : Go.Proofs.YtkjjegakfceibaaDoorW.PrintWords.KeepBut w w' g row := ⟨h.1, h.2.1⟩
theorem KeepBut.refl (w : World) (g : Nat) (row : Option Nat) : KeepBut w w g row := ⟨Nat.le_refl _, fun _ _ _ _ => rfl, rfl, rfl, rfl⟩
theorem KeepBut.of_below {w w1 : World} (h : Below w.heap.size w w1) (g : Nat) (row : Option Nat) : KeepBut w w1 g row := ⟨h.size, fun i hi _ _ => h.block i hi, h.os, h.tape, h.output⟩
theorem KeepBut.trans {w w1 w2 : World} {g : Nat} {row row1 : Option Nat} (h : KeepBut w w1 g row) (k : KeepBut w1 w2 g row1) (hr : row1 = row ∨ ∃ b, row1 = some b ∧ w.heap.size ≤ b) : KeepBut w w2 g row :=
  ⟨(h.k.trans k.k hr).1, (h.k.trans k.k hr).2, k.2.2.1.trans h.2.2.1, k.2.2.2.1.trans h.2.2.2.1, k.2.2.2.2.trans h.2.2.2.2⟩
theorem KeepBut.set_ {w w1 : World} {g : Nat} {row : Option Nat} (h : KeepBut w w1 g row) (j : Nat) (u : Value) : KeepBut w (w1.setCell ⟨g, j, none⟩ u) g row :=
  have hb := (Below.refl 0 w1).setCell (p := ⟨g, j, none⟩) (Nat.zero_le _) u
  ⟨(h.k.set_ j u).1, (h.k.set_ j u).2, hb.os.trans h.2.2.1, hb.tape.trans h.2.2.2.1, hb.output.trans h.2.2.2.2⟩
theorem KeepBut.blk {w w1 : World} {g g' : Nat} {row : Option Nat} {o : Obj} (h : KeepBut w w1 g row) (hb : w.heap[g']? = some o) (hg : g' ≠ g) (hr : some g' ≠ row) : w1.heap[g']? = some o := h.k.blk hb hg hr
theorem keep_drew {w W : World} {g : Nat} {row : Option Nat} (h : KeepBut w W g row) : KeepBut w W.drew g row :=
  have hb := below_drew1 (Below.refl W.heap.size W)
  ⟨h.1, h.2.1, hb.os.trans h.2.2.1, hb.tape.trans h.2.2.2.1, hb.output.trans h.2.2.2.2⟩
theorem keep_new1 {w W : World} {g g' : Nat} (h : KeepBut w W g none) (hg : w.heap.size ≤ g') (j : Nat) (v : Value) : KeepBut w (W.setCell ⟨g', j, none⟩ v) g none :=
  have hb := (Below.refl 0 W).setCell (p := ⟨g', j, none⟩) (Nat.zero_le _) v
  ⟨by have := h.1; simpa using this, fun i hi h1 h2 => (Below.heap_setCell W ⟨g', j, none⟩ v i (show i ≠ g' by omega)).trans (h.2.1 i hi h1 h2), hb.os.trans h.2.2.1, hb.tape.trans h.2.2.2.1, hb.output.trans h.2.2.2.2⟩
theorem keep_below {w W W' : World} {g n : Nat} (h : KeepBut w W g none) (hn : w.heap.size ≤ n) (hb : Below n W W') : KeepBut w W' g none := ⟨Nat.le_trans h.1 hb.size, fun i hi h1 h2 => (hb.block i (by omega)).trans (h.2.1 i hi h1 h2), hb.os.trans h.2.2.1, hb.tape.trans h.2.2.2.1, hb.output.trans h.2.2.2.2⟩
/-- of a block that is new all else is as it was -/
theorem KeepBut.fresh {w W W' : World} {g : Nat} (hb : Below w.heap.size w W) (h : KeepBut W W' g none) (hg : w.heap.size ≤ g) : Below w.heap.size w W' :=
  ⟨h.2.2.1.trans hb.os, h.2.2.2.1.trans hb.tape, h.2.2.2.2.trans hb.output, Nat.le_trans hb.size h.1, fun k hk => (h.2.1 k (Nat.lt_of_lt_of_le hk hb.size) (by omega) (by simp)).trans (hb.block k hk)⟩
theorem si40 : (Tryd.prog.info? 40).map (·.size) = some 16 := by kernel_rfl
theorem si27 : (Tryd.prog.info? 27).map (·.size) = some 2 := by kernel_rfl
theorem si52 : (Tryd.prog.info? 52).map (·.size) = some 2 := by kernel_rfl
theorem si74 : (Tryd.prog.info? 74).map (·.size) = some 3 := by kernel_rfl
theorem si79 : (Tryd.prog.info? 79).map (·.size) = some 202 := by kernel_rfl
theorem si81 : (Tryd.prog.info? 81).map (·.size) = some 215 := by kernel_rfl
theorem row_stores {o : Oper} {a : Act} {w : World} (ty : TypeId) (x y : Operand) (ho : o.op = .store ty x y)
    (g : Nat) (cells : Array Value) (hx : a.eval x = .pointer (some ⟨g, 0, none⟩)) (hy : a.eval y = .agg cells)
    (t : TypeId) (old : Array Value) (hg : w.heap[g]? = some (.cells old t (0, 0))) (hi : (Tryd.prog.info? ty).map (·.size) = some cells.size)
    (hold : old.size = cells.size) (h1 : cells.all (·.oneCell') = true) : (execOp a.eval o).run Tryd.prog w = .ok .skip (w.setRow g cells) := by
  unfold execOp
  simp only [ho, hx, hy, Instr.storeAt, Instr.sureAddr, Sem.run_bind, Sem.run_pure, Result.andThen_ok, run_storeVar_row w g t ty old cells hg hi hold h1]
theorem one40 (k f t sq vi vm b od ni nm cut : Int) : (LV k f t sq vi vm b od ni nm cut).all (·.oneCell') = true := by kernel_rfl
theorem row_yields40 {o : Oper} {a : Act} {w : World} (x : Operand) (ho : o.op = .load 40 x)
    (g : Nat) (hx : a.eval x = .pointer (some ⟨g, 0, none⟩)) (cs : Array Value) (hg : w.heap[g]? = some (.cells cs 40 (0, 0)))
    (hi : (Tryd.prog.info? 40).map (·.size) = some cs.size) :
    (execOp a.eval o).run Tryd.prog w = .ok (.value (.agg cs)) w := by
  unfold execOp
  simp only [ho, hx, Instr.loadAt, Instr.sureAddr, Sem.run_bind, Sem.run_pure, Result.andThen_ok, run_loadVar_row w g 40 40 cs (0, 0) _ hg Tryd.underlying40 rfl hi]
end Go.Proofs.YtkjjegakfceibaaDoor.B
