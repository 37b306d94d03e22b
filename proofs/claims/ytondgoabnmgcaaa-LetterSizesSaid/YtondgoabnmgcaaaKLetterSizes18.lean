/- Texts of this claim, one behind the other (joined by pack.py): Door Decode Shown B11 Heavy PureLetterSizes. -/
import Derived.Test.YtondgoabnmgcaaaKLetterSizes17
import Derived.Test.YtondgoabnmgcaaaKLetterSizes12
import Derived.Tactics2
import Derived.Defers
import Derived.Recover
import Derived.Laws.Pointers
import Derived.Laws.CopyOwn
import Derived.Test.YtondgoabnmgcaaaKLetterSizes8
import Derived.Test.YtondgoabnmgcaaaKLetterSizes16
import Derived.Test.YtondgoabnmgcaaaKLetterSizes7
import Derived.Test.YtondgoabnmgcaaaKLetterSizes11
section
/- By hand: where letter.Decode stands, its deferred closure, and its ways out. -/
namespace Go.Proofs.Ytondgoabnmgcaaa.B
open Go.RowKit Go.Proofs.YtondgoabnmgcaaaW.PrintWords Go.Proofs.YtondgoabnmgcaaaW.PrintLast Go.Proofs.YtondgoabnmgcaaaW.PrintMore
open Go.Proofs.YtondgoabnmgcaaaO.B (IsS63)
open Go.Proofs.YtondgoabnmgcaaaO.R (rdv rdv_range rbits)
set_option linter.unusedSimpArgs false
set_option linter.unusedVariables false
abbrev zeroL : Array Value := #[.int .i64 0, .int .i64 0, .int .i64 0, .int .u64 0, .int .i64 0, .slice none 0 0, .int .u64 0, .int .u64 0, .int .u64 0, .int .u64 0, .int .u64 0, .int .u64 0, .int .u64 0, .slice none 0 0, .slice none 0 0, .float .f64 0]
theorem sizeL : (Try.prog.info? 32).map (·.size) = some zeroL.size := by kernel_rfl
theorem oneL : zeroL.all (·.oneCell') = true := by kernel_rfl
theorem catch_idle (p q : Addr) (w : World) :
    CallsD Try.prog 23 #[.pointer (some p), .pointer (some q)] .returning w fun e u' w' => e = .returned (.tuple #[]) ∧ u' = .returning ∧ w' = w := by
  refine callsD_of_wpS Try.func23 rfl fun c₀ cs hu => ?_
  apply wpS_seq
  apply wpS_region
  simp [wpOpsS, go_sem, recoverD, hu, Try.ntmps23, Exit.thenS]
  refine wpS_of_wp ?_
  go_wp2
  cases c₀
  simp_all [bodyPostS, results, Try.results23]
set_option maxRecDepth 100000 in
set_option maxHeartbeats 1000000 in
theorem catch_panic (g2 g3 : Nat) (er : Int) (cs : Array Value) (w : World) (hn : g2 ≠ g3) (h2 : w.heap[g2]? = some (.cells cs 32 (0, 0))) (hsz : cs.size = 16) (h3 : w.heap[g3]? = some (.cells #[.int .i64 0] 33 (0, 0))) :
    CallsD Try.prog 23 #[.pointer (some ⟨g2, 0, none⟩), .pointer (some ⟨g3, 0, none⟩)] (.panicking [{ v := .iface 33 (.int .i64 er), recovered := false }]) w fun e u' w' =>
      e = .returned (.tuple #[]) ∧ u' = .panicking [{ v := .iface 33 (.int .i64 er), recovered := true }] ∧ w' = (w.setRow g2 zeroL).setCell ⟨g3, 0, none⟩ (.int .i64 er) := by
  have hta : (Instr.typeAssert (.iface 33 (.int .i64 er)) 20 33 true).run Try.prog w = .ok (.tuple #[.int .i64 er, .bool true]) w := by
    first | kernel_rfl | rfl
  have K2 := Aside0.mk h2
  have K3 : (w.setRow g2 zeroL).heap[g3]? = some (.cells #[.int .i64 0] 33 (0, 0)) := (setRow_other w g2 g3 zeroL (Ne.symm hn)).trans h3
  have c3 := blk_cell K3 0
  have f3 := blk_frozen K3 0
  have hz : cs.size = (zeroL).size := by rw [hsz]; rfl
  have HZ := Aside0.mk hz
  clear h2 h3 K3 hn hsz hz
  refine callsD_of_wpS Try.func23 rfl fun c₀ cs' hu => ?_
  apply wpS_seq
  apply wpS_region
  simp [wpOpsS, go_sem, recoverD, hu, Try.ntmps23, Exit.thenS]
  refine wpS_of_wp ?_
  simp only [Array.replicate_succ, Array.replicate_zero, List.push_toArray, List.append_toArray, List.nil_append, List.cons_append, List.setIfInBounds_toArray, List.set_cons_zero, List.set_cons_succ]
  go_wp2_with ((with_reducible refine gate_store (t := 32) (p := 0) rfl ?_); go_loud (refine wpList_store_row rfl 32 (.tmp 0) (.tmp 11) rfl g2 zeroL rfl rfl 32 cs K2.out sizeL HZ.out oneL ?_))
  cases c₀
  simp_all [bodyPostS, results, Try.results23]
/-- where Decode stands: the reader, the letter, the error, the box of the reader; the rows of the letter -/
structure De (w0 W : World) (g g2 g3 g4 : Nat) (s : ByteArray) (q : Int) (cs : Array Value) (v5 v13 v14 : Value) (l5 : List S70) (l13 : List S53) (l14 : List S77) : Prop where
  I : IsS63 w0 W g s q
  B : Below w0.heap.size w0 W
  K2 : W.heap[g2]? = some (.cells cs 32 (0, 0))
  K3 : W.heap[g3]? = some (.cells #[.int .i64 0] 33 (0, 0))
  K4 : W.heap[g4]? = some (.cells #[.pointer (some ⟨g, 0, none⟩)] 65 (0, 0))
  n2 : g2 ≠ g
  n3 : g3 ≠ g
  n4 : g4 ≠ g
  n23 : g2 ≠ g3
  n24 : g2 ≠ g4
  l2 : w0.heap.size ≤ g2
  l3 : w0.heap.size ≤ g3
  sz : cs.size = 16
  R5 : Kd.R k70 70 W w0.heap.size (fun _ => True) v5 l5
  R13 : Kd.R k53 53 W w0.heap.size (fun _ => True) v13 l13
  R14 : Kd.R k77 77 W w0.heap.size (fun _ => True) v14 l14
section
variable {w0 W : World} {g g2 g3 g4 : Nat} {s : ByteArray} {q : Int} {cs : Array Value} {v5 v13 v14 : Value} {l5 : List S70} {l13 : List S53} {l14 : List S77}
theorem De.c2 (S : De w0 W g g2 g3 g4 s q cs v5 v13 v14 l5 l13 l14) (j : Nat) : W.cell? ⟨g2, j, none⟩ = cs[j]? := blk_cell S.K2 j
theorem De.f2 (S : De w0 W g g2 g3 g4 s q cs v5 v13 v14 l5 l13 l14) (j : Nat) : W.frozen? ⟨g2, j, none⟩ = false := blk_frozen S.K2 j
theorem De.call {W' : World} {q' : Int} (S : De w0 W g g2 g3 g4 s q cs v5 v13 v14 l5 l13 l14) (hI : IsS63 w0 W' g s q') (hB : Below w0.heap.size w0 W') (hK : KeepBut W W' g none) : De w0 W' g g2 g3 g4 s q' cs v5 v13 v14 l5 l13 l14 :=
  ⟨hI, hB, hK.blk S.K2 S.n2 (by simp), hK.blk S.K3 S.n3 (by simp), hK.blk S.K4 S.n4 (by simp), S.n2, S.n3, S.n4, S.n23, S.n24, S.l2, S.l3, S.sz,
    Kd.R_mono (Kd.R_keep (Kd.R_types S.R5 S.I.1 (by decide)) hK (fun _ h => h.2)) (fun _ _ => trivial), Kd.R_mono (Kd.R_keep (Kd.R_types S.R13 S.I.1 (by decide)) hK (fun _ h => h.2)) (fun _ _ => trivial), Kd.R_mono (Kd.R_keep (Kd.R_types S.R14 S.I.1 (by decide)) hK (fun _ h => h.2)) (fun _ _ => trivial)⟩
theorem De.put (S : De w0 W g g2 g3 g4 s q cs v5 v13 v14 l5 l13 l14) (j : Nat) (v : Value) : De w0 (W.setCell ⟨g2, j, none⟩ v) g g2 g3 g4 s q (cs.setIfInBounds j v) v5 v13 v14 l5 l13 l14 :=
  ⟨S.I.far (Ne.symm S.n2) v, below_set S.B S.l2, blk_put S.K2 j v rfl, blk_far (p := ⟨g2, j, none⟩) S.K3 (Ne.symm S.n23) v, blk_far (p := ⟨g2, j, none⟩) S.K4 (Ne.symm S.n24) v, S.n2, S.n3, S.n4, S.n23, S.n24, S.l2, S.l3, by rw [Array.size_setIfInBounds]; exact S.sz,
    Kd.R_mono (Kd.R_far (p := ⟨g2, j, none⟩) (Kd.R_types S.R5 S.K2 (by decide)) (fun _ h => h.2) v) (fun _ _ => trivial), Kd.R_mono (Kd.R_far (p := ⟨g2, j, none⟩) (Kd.R_types S.R13 S.K2 (by decide)) (fun _ h => h.2) v) (fun _ _ => trivial), Kd.R_mono (Kd.R_far (p := ⟨g2, j, none⟩) (Kd.R_types S.R14 S.K2 (by decide)) (fun _ h => h.2) v) (fun _ _ => trivial)⟩
theorem De.row5 (S : De w0 W g g2 g3 g4 s q cs v5 v13 v14 l5 l13 l14) {v : Value} {l : List S70} (h : Kd.R k70 70 W w0.heap.size (fun _ => True) v l) : De w0 W g g2 g3 g4 s q cs v v13 v14 l l13 l14 := ⟨S.I, S.B, S.K2, S.K3, S.K4, S.n2, S.n3, S.n4, S.n23, S.n24, S.l2, S.l3, S.sz, h, S.R13, S.R14⟩
theorem De.row13 (S : De w0 W g g2 g3 g4 s q cs v5 v13 v14 l5 l13 l14) {v : Value} {l : List S53} (h : Kd.R k53 53 W w0.heap.size (fun _ => True) v l) : De w0 W g g2 g3 g4 s q cs v5 v v14 l5 l l14 := ⟨S.I, S.B, S.K2, S.K3, S.K4, S.n2, S.n3, S.n4, S.n23, S.n24, S.l2, S.l3, S.sz, S.R5, h, S.R14⟩
theorem De.row14 (S : De w0 W g g2 g3 g4 s q cs v5 v13 v14 l5 l13 l14) {v : Value} {l : List S77} (h : Kd.R k77 77 W w0.heap.size (fun _ => True) v l) : De w0 W g g2 g3 g4 s q cs v5 v13 v l5 l13 l := ⟨S.I, S.B, S.K2, S.K3, S.K4, S.n2, S.n3, S.n4, S.n23, S.n24, S.l2, S.l3, S.sz, S.R5, S.R13, h⟩
end
/-- a letter, as Decode hands it back -/
def cellsL (x : S32) (v5 v13 v14 : Value) : Array Value := #[.int .i64 x.f0, .int .i64 x.f1, .int .i64 x.f2, .int .u64 x.f3, .int .i64 x.f4, v5, .int .u64 x.f6.f0, .int .u64 x.f6.f1, .int .u64 x.f7, .int .u64 x.f8, .int .u64 x.f9.f0, .int .u64 x.f9.f1, .int .u64 x.f10, v13, v14, .float .f64 x.f13]
def DPost (D : Except Int S32) (w0 : World) (e : Ending) (w' : World) : Prop :=
  Below w0.heap.size w0 w' ∧ match D with
  | .error er => e = .returned (.tuple #[.agg zeroL, .int .i64 er])
  | .ok x => ∃ v5 v13 v14, e = .returned (.tuple #[.agg (cellsL x v5 v13 v14), .int .i64 0]) ∧ Kd.R k70 70 w' w0.heap.size (fun _ => True) v5 x.f5 ∧ Kd.R k53 53 w' w0.heap.size (fun _ => True) v13 x.f11 ∧ Kd.R k77 77 w' w0.heap.size (fun _ => True) v14 x.f12
theorem results_dc {P : Program} {fn : Func} {p u : Tmp} {ty ty' : TypeId} {k : IntKind} {d : TypeDesc} (h : fn.results = #[.cell p ty, .cell u ty']) (tmps : Array Value) (w : World) (g g' : Nat) (cs : Array Value) (fr : Nat × Nat) (v' : Value)
    (hp : tmps.getD p undef = .pointer (some ⟨g, 0, none⟩)) (hq : tmps.getD u undef = .pointer (some ⟨g', 0, none⟩)) (hg : w.heap[g]? = some (.cells cs ty fr)) (hc' : w.cell? ⟨g', 0, none⟩ = some v')
    (hu : P.underlying ty = some d) (hd : (match d with | .struct _ | .array _ _ => true | _ => false) = true) (hi : (P.info? ty).map (·.size) = some cs.size) (hu' : P.underlying ty' = some (.int k)) :
    (results fn tmps).run P w = .ok (.tuple #[.agg cs, v']) w := by
  have hp' : tmps[p]?.getD undef = .pointer (some ⟨g, 0, none⟩) := by simpa using hp
  have hq' : tmps[u]?.getD undef = .pointer (some ⟨g', 0, none⟩) := by simpa using hq
  have h1 := run_loadVar_row (P := P) w g ty ty cs fr d hg hu hd hi
  have h2 : (loadVar ty' ⟨g', 0, none⟩).run P w = .ok v' w := by simp [loadVar, isAgg, run_underlying hu', hc']
  simp [results, h, hp', hq', asAddr, h1, h2]
/-- the way out behind a panic with an error, wherever -/
theorem door_bad (w0 W : World) (g2 g3 : Nat) (cs : Array Value) (D : Except Int S32) (er : Int) (T : Array Value) (hn : g2 ≠ g3) (hsz : cs.size = 16) (h2 : W.heap[g2]? = some (.cells cs 32 (0, 0))) (h3 : W.heap[g3]? = some (.cells #[.int .i64 0] 33 (0, 0)))
    (l2 : w0.heap.size ≤ g2) (l3 : w0.heap.size ≤ g3) (hB : Below w0.heap.size w0 W) (hD : D = .error er) (t2 : T.getD 2 undef = .pointer (some ⟨g2, 0, none⟩)) (t3 : T.getD 3 undef = .pointer (some ⟨g3, 0, none⟩)) :
    bodyPostD Try.prog Try.f10 (DPost D w0) (Exit.panic [{ v := .iface 33 (.int .i64 er), recovered := false }])
      { tmps := T, defers := [{ target := .fn (.func 23) #[.pointer (some ⟨g2, 0, none⟩), .pointer (some ⟨g3, 0, none⟩)], args := #[] }] } W := by
  refine leaves_cons (f := 23) (args := #[.pointer (some ⟨g2, 0, none⟩), .pointer (some ⟨g3, 0, none⟩)]) (by simp) (by simp [go_sem]) ?_
  refine (catch_panic g2 g3 er cs W hn h2 hsz h3).mono ?_
  rintro e u' w'' ⟨rfl, rfl, rfl⟩
  have R2 := setRow_heap W g2 cs zeroL 32 (0, 0) h2
  have R3 := (setRow_other W g2 g3 zeroL (Ne.symm hn)).trans h3
  have P2 := blk_far (p := ⟨g3, 0, none⟩) R2 hn (.int .i64 er)
  have P3 := blk_put R3 0 (.int .i64 er) rfl
  refine ⟨_, results_dc (by kernel_rfl) _ _ g2 g3 zeroL (0, 0) (.int .i64 er) t2 t3 P2 (blk_cell P3 0) Try.underlying32 rfl sizeL Try.underlying33, ?_⟩
  subst hD
  exact ⟨below_set (below_setRow hB l2 zeroL) l3, rfl⟩
/-- the way out where all went well -/
theorem door_ok (w0 W : World) (g2 g3 : Nat) (x : S32) (v5 v13 v14 : Value) (D : Except Int S32) (T : Array Value) (h2 : W.heap[g2]? = some (.cells (cellsL x v5 v13 v14) 32 (0, 0))) (h3 : W.heap[g3]? = some (.cells #[.int .i64 0] 33 (0, 0)))
    (hB : Below w0.heap.size w0 W) (hD : D = .ok x) (r5 : Kd.R k70 70 W w0.heap.size (fun _ => True) v5 x.f5) (r13 : Kd.R k53 53 W w0.heap.size (fun _ => True) v13 x.f11) (r14 : Kd.R k77 77 W w0.heap.size (fun _ => True) v14 x.f12)
    (t2 : T.getD 2 undef = .pointer (some ⟨g2, 0, none⟩)) (t3 : T.getD 3 undef = .pointer (some ⟨g3, 0, none⟩)) :
    bodyPostD Try.prog Try.f10 (DPost D w0) Exit.ret
      { tmps := T, defers := [{ target := .fn (.func 23) #[.pointer (some ⟨g2, 0, none⟩), .pointer (some ⟨g3, 0, none⟩)], args := #[] }] } W := by
  refine leaves_cons (f := 23) (args := #[.pointer (some ⟨g2, 0, none⟩), .pointer (some ⟨g3, 0, none⟩)]) (by simp) (by simp [go_sem]) ?_
  refine (catch_idle ⟨g2, 0, none⟩ ⟨g3, 0, none⟩ W).mono ?_
  rintro e u' w'' ⟨rfl, rfl, rfl⟩
  refine ⟨_, results_dc (by kernel_rfl) _ _ g2 g3 (cellsL x v5 v13 v14) (0, 0) (.int .i64 0) t2 t3 h2 (blk_cell h3 0) Try.underlying32 rfl (by kernel_rfl) Try.underlying33, ?_⟩
  subst hD
  exact ⟨hB, v5, v13, v14, rfl, r5, r13, r14⟩
end Go.Proofs.Ytondgoabnmgcaaa.B
end
section
/- By hand: letter.Decode (printed by decode.py). -/
namespace Go.Proofs.Ytondgoabnmgcaaa.B
open Go.RowKit Go.Proofs.YtondgoabnmgcaaaW.PrintWords Go.Proofs.YtondgoabnmgcaaaW.PrintLast Go.Proofs.YtondgoabnmgcaaaW.PrintMore
open Go.Proofs.YtondgoabnmgcaaaO.B (IsS63)
open Go.Proofs.YtondgoabnmgcaaaO.R (rdv rdv_range rbits Ours real_ours num_ok num_short)
set_option linter.unusedSimpArgs false
set_option linter.unusedVariables false
/-! what bytes are which letter, step by step -/
def loadF (s : ByteArray) (p : Nat) : Nat := (rbits (rdv s p 8).toNat).toNat
def letterOf (s : ByteArray) (l5 : List S70) (q : Nat) (l13 : List S53) (l14 : List S77) (q3 : Nat) : S32 :=
  ⟨rdv s 0 1, rdv s 1 1, rdv s 2 1, rdv s 3 8, rdv s 11 1, l5, ⟨rdv s q 8, rdv s (q + 8) 8⟩, rdv s (q + 16) 8, rdv s (q + 24) 8, ⟨rdv s (q + 32) 8, rdv s (q + 32 + 8) 8⟩, rdv s (q + 48) 8, l13, l14, loadF s q3⟩
def d16 (s : ByteArray) (l5 : List S70) (q : Nat) (l13 : List S53) (l14 : List S77) (q3 : Nat) : Except Int S32 :=
  if mayL (rdv s 0 1) (rdv s 1 1) (rdv s 2 1) (rdv s 11 1) l5 l13 l14 (loadF s q3) = false then .error 1 else .ok (letterOf s l5 q l13 l14 q3)
def d15 (s : ByteArray) (l5 : List S70) (q : Nat) (l13 : List S53) (l14 : List S77) (q3 : Nat) : Except Int S32 := if rdv s 0 1 < 1 ∨ 14 < rdv s 0 1 then .error 150 else d16 s l5 q l13 l14 q3
def d14 (s : ByteArray) (l5 : List S70) (q : Nat) (l13 : List S53) (l14 : List S77) (q3 : Nat) : Except Int S32 := if q3 + 8 < s.size then .error 11 else d15 s l5 q l13 l14 q3
def d13 (s : ByteArray) (l5 : List S70) (q : Nat) (l13 : List S53) (l14 : List S77) (q3 : Nat) : Except Int S32 := if s.size < q3 + 8 then .error 10 else d14 s l5 q l13 l14 q3
def d12 (s : ByteArray) (l5 : List S70) (q : Nat) (l13 : List S53) (q2 : Nat) : Except Int S32 := match listI s (itX s) 16 q2 with
  | .error e => .error e
  | .ok (l14, q3) => d13 s l5 q l13 l14 q3
def d11 (s : ByteArray) (l5 : List S70) (q : Nat) : Except Int S32 := match listI s (itP s) 6 (q + 56) with
  | .error e => .error e
  | .ok (l13, q2) => d12 s l5 q l13 q2
def d10 (s : ByteArray) (l5 : List S70) (q : Nat) : Except Int S32 := if s.size < q + 56 then .error 10 else d11 s l5 q
def d9 (s : ByteArray) (l5 : List S70) (q : Nat) : Except Int S32 := if s.size < q + 48 then .error 10 else d10 s l5 q
def d8 (s : ByteArray) (l5 : List S70) (q : Nat) : Except Int S32 := if s.size < q + 32 then .error 10 else d9 s l5 q
def d7 (s : ByteArray) (l5 : List S70) (q : Nat) : Except Int S32 := if s.size < q + 24 then .error 10 else d8 s l5 q
def d6 (s : ByteArray) (l5 : List S70) (q : Nat) : Except Int S32 := if s.size < q + 16 then .error 10 else d7 s l5 q
def d5 (s : ByteArray) : Except Int S32 := match listI s (itU s) 8 12 with
  | .error e => .error e
  | .ok (l5, q) => d6 s l5 q
def d4 (s : ByteArray) : Except Int S32 := if s.size < 12 then .error 10 else d5 s
def d3 (s : ByteArray) : Except Int S32 := if s.size < 11 then .error 10 else d4 s
def d2 (s : ByteArray) : Except Int S32 := if s.size < 3 then .error 10 else d3 s
def d1 (s : ByteArray) : Except Int S32 := if s.size < 2 then .error 10 else d2 s
def decP (s : ByteArray) : Except Int S32 := if s.size < 1 then .error 10 else d1 s
theorem except_or {ε α : Type} (x : Except ε α) : (∃ e, x = .error e) ∨ ∃ a, x = .ok a := by
  cases x with
  | error e => exact .inl ⟨e, rfl⟩
  | ok a => exact .inr ⟨a, rfl⟩
theorem view_bad (w0 w : World) (g : Nat) (s : ByteArray) (p : Nat) (hs : s.size < 4611686018427387904) (hp : p ≤ s.size) (h : s.size < p + 16) (hI : IsS63 w0 w g s p) (hB : Below w0.heap.size w0 w) :
    Calls Try.prog 31 #[.agg #[.pointer (some ⟨g, 0, none⟩)]] w fun e w' => e = bad 10 ∧ Below w0.heap.size w0 w' ∧ KeepBut w w' g none := by
  by_cases h1 : s.size < p + 8
  · exact view_bad0 w0 w g s p hs (by omega) h1 hI hB
  · exact view_bad1 w0 w g s p hs (by omega) h hI hB
theorem de_start {w w4 : World} {g g2 g3 g4 : Nat} {s : ByteArray} (I : IsS63 w w4 g s 0) (B : Below w.heap.size w w4) (K2 : w4.heap[g2]? = some (.cells zeroL 32 (0, 0))) (K3 : w4.heap[g3]? = some (.cells #[.int .i64 0] 33 (0, 0)))
    (K4 : w4.heap[g4]? = some (.cells #[.pointer none] 65 (0, 0))) (l2 : w.heap.size ≤ g2) (l3 : w.heap.size ≤ g3) (l4 : w.heap.size ≤ g4) (n23 : g2 ≠ g3) (n24 : g2 ≠ g4) (n34 : g3 ≠ g4) (n2 : g2 ≠ g) (n3 : g3 ≠ g) (n4 : g4 ≠ g) :
    De w (w4.setCell ⟨g4, 0, none⟩ (.pointer (some ⟨g, 0, none⟩))) g g2 g3 g4 s 0 zeroL (.slice none 0 0) (.slice none 0 0) (.slice none 0 0) [] [] [] :=
  ⟨I.far (Ne.symm n4) _, below_set B l4, blk_far (p := ⟨g4, 0, none⟩) K2 n24 _, blk_far (p := ⟨g4, 0, none⟩) K3 n34 _, blk_put K4 0 _ rfl, n2, n3, n4, n23, n24, l2, l3, rfl, Kd.R_nil _ _ _ _ _, Kd.R_nil _ _ _ _ _, Kd.R_nil _ _ _ _ _⟩
theorem real37_ok (w0 w : World) (g : Nat) (s : ByteArray) (p : Nat) (hs : s.size < 4611686018427387904) (h : p + 8 ≤ s.size) (hI : IsS63 w0 w g s p) (hB : Below w0.heap.size w0 w) :
    Calls Try.prog 37 #[.pointer (some ⟨g, 0, none⟩)] w fun e w' => e = .returned (.tuple #[.float .f64 (loadF s p), .int .i64 0]) ∧ IsS63 w0 w' g s ((p + 8 : Nat) : Int) ∧ Below w0.heap.size w0 w' ∧ KeepBut w w' g none := by
  have hn := num_ok s p 8 (by omega) (by omega) hs h
  have := real_ours w0 s p _ _ 0 10 hn g w hI hB
  exact this
theorem real37_bad (w0 w : World) (g : Nat) (s : ByteArray) (p : Nat) (hp : p ≤ s.size) (h : s.size < p + 8) (hI : IsS63 w0 w g s p) (hB : Below w0.heap.size w0 w) :
    Calls Try.prog 37 #[.pointer (some ⟨g, 0, none⟩)] w fun e w' => ∃ x, e = .returned (.tuple #[.float .f64 x, .int .i64 10]) ∧ Below w0.heap.size w0 w' ∧ KeepBut w w' g none := by
  have hn := num_short s p 8 (by omega) (by omega) hp h
  have := real_ours w0 s p _ _ 10 10 hn g w hI hB
  exact this.mono (fun e w' hh => ⟨_, hh.1, hh.2.2.1, hh.2.2.2⟩)
theorem end_more (w0 w : World) (g : Nat) (s : ByteArray) (p : Nat) (hs : s.size < 4611686018427387904) (h : p < s.size) (hI : IsS63 w0 w g s p) (hB : Below w0.heap.size w0 w) :
    Calls Try.prog 38 #[.pointer (some ⟨g, 0, none⟩)] w fun e w' => e = .returned (.int .i64 11) ∧ IsS63 w0 w' g s p ∧ Below w0.heap.size w0 w' ∧ KeepBut w w' g none := by
  refine Go.Proofs.YtondgoabnmgcaaaO.B.octet_Reader_End.calls g s p 11 s p w0 w hI hB ?_
  unfold Go.Proofs.YtondgoabnmgcaaaO.B.octet_Reader_End.f Go.Proofs.YtondgoabnmgcaaaO.B.octet_Reader_Left.f
  have : wrap64 ((s.size : Int) - p) = (s.size : Int) - p := by unfold wrap64; omega
  rw [this, Option.bind_some]
  exact if_pos (by show (s.size : Int) - p > 0; omega)
theorem end_done (w0 w : World) (g : Nat) (s : ByteArray) (p : Nat) (hs : s.size < 4611686018427387904) (h : p = s.size) (hI : IsS63 w0 w g s p) (hB : Below w0.heap.size w0 w) :
    Calls Try.prog 38 #[.pointer (some ⟨g, 0, none⟩)] w fun e w' => e = .returned (.int .i64 0) ∧ IsS63 w0 w' g s p ∧ Below w0.heap.size w0 w' ∧ KeepBut w w' g none := by
  refine Go.Proofs.YtondgoabnmgcaaaO.B.octet_Reader_End.calls g s p 0 s p w0 w hI hB ?_
  unfold Go.Proofs.YtondgoabnmgcaaaO.B.octet_Reader_End.f Go.Proofs.YtondgoabnmgcaaaO.B.octet_Reader_Left.f
  have : wrap64 ((s.size : Int) - p) = (s.size : Int) - p := by unfold wrap64; omega
  rw [this, Option.bind_some]
  exact if_neg (by show ¬ (s.size : Int) - p > 0; omega)
theorem row_step {w : World} {g : Nat} {cs : Array Value} {v : Value} {α : Type} {d : Kd α} {e base : Nat} {l : List α} (h : Kd.R d e w base (fun _ => True) v l) (hb : w.heap[g]? = some (.cells cs 32 (0, 0))) (ht : ∀ q, q ∈ e :: d.E → q ≠ 32) (cs' : Array Value) : Kd.R d e (w.setRow g cs') base (fun _ => True) v l :=
  Kd.R_mono (Kd.R_step (Kd.R_types h hb ht) (fun k hk _ => setRow_other w g k cs' hk.2)) (fun _ _ => trivial)
theorem De.below {w0 W W' : World} {g g2 g3 g4 : Nat} {s : ByteArray} {q : Int} {cs : Array Value} {v5 v13 v14 : Value} {l5 : List S70} {l13 : List S53} {l14 : List S77} (S : De w0 W g g2 g3 g4 s q cs v5 v13 v14 l5 l13 l14) (hb : Below W.heap.size W W') : De w0 W' g g2 g3 g4 s q cs v5 v13 v14 l5 l13 l14 :=
  S.call ⟨blk_below S.I.1 hb, S.I.2⟩ (below_step S.B hb) (KeepBut.of_below hb g none)
theorem run_store_float (P : Program) (w : World) (a : Addr) (m : Mode) (k : FloatKind) (n : Nat) : (store a (.float k n) m).run P w = stored P w a (.float k n) m := run_store P w a _ m rfl
attribute [local go_sem] run_store_float
theorem one_L (a0 a1 a2 a3 a4 : Int) (A5 : Option Addr) (n5 c5 : Nat) (a6 a7 a8 a9 a10 a11 a12 : Int) (A13 : Option Addr) (n13 c13 : Nat) (A14 : Option Addr) (n14 c14 : Nat) (a15 : Nat) :
    (#[.int .i64 a0, .int .i64 a1, .int .i64 a2, .int .u64 a3, .int .i64 a4, .slice A5 n5 c5, .int .u64 a6, .int .u64 a7, .int .u64 a8, .int .u64 a9, .int .u64 a10, .int .u64 a11, .int .u64 a12, .slice A13 n13 c13, .slice A14 n14 c14, .float .f64 a15] : Array Value).all (·.oneCell') = true := by kernel_rfl
set_option maxRecDepth 100000 in
set_option maxHeartbeats 4000000 in
theorem decode_walk (w : World) (t s : ByteArray) (hO : Go.Proofs.YtondgoabnmgcaaaG.B.guard_Open.f t = some (s, 0)) (hs : s.size < 4611686018427387904) : Calls Try.prog 10 #[.string t] w (DPost (decP s) w) := by
  have hmf : ∀ (fn : Fn) (first cap : Array Value) (w : World), (Instr.makeFunc fn first cap).run Try.prog w = .ok (.func fn first cap) w := fun _ _ _ _ => rfl
  have HO := Aside0.mk hO
  have size65 := size65
  have HS := Aside0.mk hs
  obtain ⟨D, hD⟩ : ∃ D, D = decP s := ⟨_, rfl⟩
  rw [← hD]
  have HD := Aside0.mk hD
  clear hD
  have HQ : Aside0 (0 ≤ s.size) := ⟨Nat.zero_le _⟩
  clear hO hs
  go_enter_defers Try.func10, Try.ntmps10
  go_wp2_with (first
    | ((with_reducible refine gate_dst (N := 2) rfl ?_); refine box_event ?hg (N := 2) ?hd (cs := #[.int .i64 0, .int .i64 0, .int .i64 0, .int .u64 0, .int .i64 0, .slice none 0 0, .int .u64 0, .int .u64 0, .int .u64 0, .int .u64 0, .int .u64 0, .int .u64 0, .int .u64 0, .slice none 0 0, .slice none 0 0, .float .f64 0]) (t := 32) ?hr ?_; (case hd => rfl); (case hg => rfl); (case hr => first | (go_simp; done) | (go_simp; rfl)); intro g2 hg_ w1 hb_ hB_; have K2 := Aside0.mk hb_; have B1 := Aside0.mk hB_; have L2 := Aside0.mk (Nat.le_of_eq hg_.symm); clear hg_ hb_ hB_)
    | ((with_reducible refine gate_dst (N := 3) rfl ?_); refine box_event ?hg (N := 3) ?hd (cs := #[.int .i64 0]) (t := 33) ?hr ?_; (case hd => rfl); (case hg => rfl); (case hr => first | (go_simp; done) | (go_simp; rfl)); intro g3 hg_ w2 hb_ hB_; have K3 := Aside0.mk hb_; have K2b := Aside0.mk (blk_below K2.out hB_); have L3 := Aside0.mk (show w.heap.size ≤ g3 by have := B1.out.size; omega); have N23 := Aside0.mk (show g2 ≠ g3 by have := blk_lt K2.out; omega); have B2 := Aside0.mk (below_step B1.out hB_); clear hg_ hb_ hB_ K2 B1)
    | (go_at_call 26; refine (Go.Proofs.YtondgoabnmgcaaaG.B.guard_Open.calls t s 0 _ HO.out).mono ?_; rintro e w3 ⟨rfl, hb⟩; have K2c := Aside0.mk (blk_below K2b.out hb); have K3c := Aside0.mk (blk_below K3.out hb); have B3 := Aside0.mk (below_step B2.out hb); clear hb K2b K3 B2)
    | (go_at_call 25; refine (must_str_ok s _).mono ?_; rintro e w4 ⟨rfl, rfl⟩)
    | (go_at_call 24; refine (Go.Proofs.YtondgoabnmgcaaaO.B.octet_New.calls s s 0 w _ B3.out rfl).mono ?_; rintro e w5 ⟨g, rfl, hi, hb, hb2⟩; have I5 := Aside0.mk hi; have K2d := Aside0.mk (blk_below K2c.out hb2); have K3d := Aside0.mk (blk_below K3c.out hb2); have N2 := Aside0.mk (show g2 ≠ g from fun e => by subst e; have := K2d.out.symm.trans hi.1; injection this with this; injection this with _ this; exact absurd this (by decide)); have N3 := Aside0.mk (show g3 ≠ g from fun e => by subst e; have := K3d.out.symm.trans hi.1; injection this with this; injection this with _ this; exact absurd this (by decide)); have B5 := Aside0.mk hb; clear hi hb hb2 K2c K3c B3)
    | ((with_reducible refine gate_dst (N := 4) rfl ?_); refine box_event ?hg (N := 4) ?hd (cs := #[.pointer none]) (t := 65) ?hr ?_; (case hd => rfl); (case hg => rfl); (case hr => first | (go_simp; done) | (go_simp; rfl)); intro g4 hg_ w6 hb_ hB_; have I6 := Aside0.mk (show IsS63 w w6 g s 0 from ⟨blk_below I5.out.1 hB_, I5.out.2⟩); have B6 := Aside0.mk (below_step B5.out hB_); have K2e := Aside0.mk (blk_below K2d.out hB_); have K3e := Aside0.mk (blk_below K3d.out hB_); have N4 := Aside0.mk (show g2 ≠ g4 ∧ g3 ≠ g4 ∧ g4 ≠ g ∧ w.heap.size ≤ g4 from ⟨by have := blk_lt K2d.out; omega, by have := blk_lt K3d.out; omega, by have := blk_lt I5.out.1; omega, by have := B5.out.size; omega⟩); have z := blk_cell hb_ 0; have zf := blk_frozen hb_ 0; have S0 := Aside0.mk (de_start I6.out B6.out K2e.out K3e.out hb_ L2.out L3.out N4.out.2.2.2 N23.out N4.out.1 N4.out.2.1 N2.out N3.out N4.out.2.2.1); clear hg_ hb_ hB_ I5 B5 K2d K3d)
    | (refine wpList_load_row rfl 65 (.tmp 4) rfl g4 rfl 65 #[.pointer (some ⟨g, 0, none⟩)] (0, 0) _ (S0.out).K4 Try.underlying65 rfl size65 ?_; have T0 : Aside0 (De w _ g g2 g3 g4 s _ #[.int .i64 0, .int .i64 0, .int .i64 0, .int .u64 0, .int .i64 0, .slice none 0 0, .int .u64 0, .int .u64 0, .int .u64 0, .int .u64 0, .int .u64 0, .int .u64 0, .int .u64 0, .slice none 0 0, .slice none 0 0, .float .f64 0] _ _ _ _ _ _) := ⟨S0.out⟩; generalize World.setCell _ _ _ = wa0 at T0 ⊢; (try clear z); (try clear zf); clear S0)
    | (go_at_call 27; refine Classical.byCases (p := s.size < 1) (fun hN => by (refine (small_bad w _ g s 0 (by have := HQ.out; omega) (by omega) T0.out.I T0.out.B).mono ?_; rintro e w' ⟨rfl, hb, hk⟩; exact door_bad w _ g2 g3 _ D 10 _ N23.out T0.out.sz (hk.blk T0.out.K2 T0.out.n2 (by simp)) (hk.blk T0.out.K3 T0.out.n3 (by simp)) L2.out L3.out hb (by rw [HD.out]; exact if_pos hN) rfl rfl)) (fun hN => ?_); have HE : Aside0 (D = d1 s) := ⟨by rw [HD.out]; exact if_neg hN⟩; have HR : Aside0 (1 ≤ s.size) := ⟨by omega⟩; clear HD HQ hN; have HD := HE; have HQ := HR; clear HE HR; refine (small_ok w _ g s 0 HS.out (by have := HQ.out; omega) T0.out.I T0.out.B).mono ?_; rintro e wb0 ⟨rfl, hi, hb, hk⟩; have S1 := Aside0.mk (T0.out.call hi hb hk); have z := S1.out.c2 0; have zf := S1.out.f2 0; clear hi hb hk T0)
    | (refine wpList_load_row rfl 65 (.tmp 4) rfl g4 rfl 65 #[.pointer (some ⟨g, 0, none⟩)] (0, 0) _ (S1.out.put 0 (.int .i64 (rdv s 0 1))).K4 Try.underlying65 rfl size65 ?_; have T1 : Aside0 (De w _ g g2 g3 g4 s _ #[.int .i64 (rdv s 0 1), .int .i64 0, .int .i64 0, .int .u64 0, .int .i64 0, .slice none 0 0, .int .u64 0, .int .u64 0, .int .u64 0, .int .u64 0, .int .u64 0, .int .u64 0, .int .u64 0, .slice none 0 0, .slice none 0 0, .float .f64 0] _ _ _ _ _ _) := ⟨S1.out.put 0 (.int .i64 (rdv s 0 1))⟩; generalize World.setCell _ _ _ = wa1 at T1 ⊢; (try clear z); (try clear zf); clear S1)
    | (go_at_call 27; refine Classical.byCases (p := s.size < 2) (fun hN => by (refine (small_bad w _ g s 1 (by have := HQ.out; omega) (by omega) T1.out.I T1.out.B).mono ?_; rintro e w' ⟨rfl, hb, hk⟩; exact door_bad w _ g2 g3 _ D 10 _ N23.out T1.out.sz (hk.blk T1.out.K2 T1.out.n2 (by simp)) (hk.blk T1.out.K3 T1.out.n3 (by simp)) L2.out L3.out hb (by rw [HD.out]; exact if_pos hN) rfl rfl)) (fun hN => ?_); have HE : Aside0 (D = d2 s) := ⟨by rw [HD.out]; exact if_neg hN⟩; have HR : Aside0 (2 ≤ s.size) := ⟨by omega⟩; clear HD HQ hN; have HD := HE; have HQ := HR; clear HE HR; refine (small_ok w _ g s 1 HS.out (by have := HQ.out; omega) T1.out.I T1.out.B).mono ?_; rintro e wb1 ⟨rfl, hi, hb, hk⟩; have S2 := Aside0.mk (T1.out.call hi hb hk); have z := S2.out.c2 1; have zf := S2.out.f2 1; clear hi hb hk T1)
    | (refine wpList_load_row rfl 65 (.tmp 4) rfl g4 rfl 65 #[.pointer (some ⟨g, 0, none⟩)] (0, 0) _ (S2.out.put 1 (.int .i64 (rdv s 1 1))).K4 Try.underlying65 rfl size65 ?_; have T2 : Aside0 (De w _ g g2 g3 g4 s _ #[.int .i64 (rdv s 0 1), .int .i64 (rdv s 1 1), .int .i64 0, .int .u64 0, .int .i64 0, .slice none 0 0, .int .u64 0, .int .u64 0, .int .u64 0, .int .u64 0, .int .u64 0, .int .u64 0, .int .u64 0, .slice none 0 0, .slice none 0 0, .float .f64 0] _ _ _ _ _ _) := ⟨S2.out.put 1 (.int .i64 (rdv s 1 1))⟩; generalize World.setCell _ _ _ = wa2 at T2 ⊢; (try clear z); (try clear zf); clear S2)
    | (go_at_call 27; refine Classical.byCases (p := s.size < 3) (fun hN => by (refine (small_bad w _ g s 2 (by have := HQ.out; omega) (by omega) T2.out.I T2.out.B).mono ?_; rintro e w' ⟨rfl, hb, hk⟩; exact door_bad w _ g2 g3 _ D 10 _ N23.out T2.out.sz (hk.blk T2.out.K2 T2.out.n2 (by simp)) (hk.blk T2.out.K3 T2.out.n3 (by simp)) L2.out L3.out hb (by rw [HD.out]; exact if_pos hN) rfl rfl)) (fun hN => ?_); have HE : Aside0 (D = d3 s) := ⟨by rw [HD.out]; exact if_neg hN⟩; have HR : Aside0 (3 ≤ s.size) := ⟨by omega⟩; clear HD HQ hN; have HD := HE; have HQ := HR; clear HE HR; refine (small_ok w _ g s 2 HS.out (by have := HQ.out; omega) T2.out.I T2.out.B).mono ?_; rintro e wb2 ⟨rfl, hi, hb, hk⟩; have S3 := Aside0.mk (T2.out.call hi hb hk); have z := S3.out.c2 2; have zf := S3.out.f2 2; clear hi hb hk T2)
    | (refine wpList_load_row rfl 65 (.tmp 4) rfl g4 rfl 65 #[.pointer (some ⟨g, 0, none⟩)] (0, 0) _ (S3.out.put 2 (.int .i64 (rdv s 2 1))).K4 Try.underlying65 rfl size65 ?_; have T3 : Aside0 (De w _ g g2 g3 g4 s _ #[.int .i64 (rdv s 0 1), .int .i64 (rdv s 1 1), .int .i64 (rdv s 2 1), .int .u64 0, .int .i64 0, .slice none 0 0, .int .u64 0, .int .u64 0, .int .u64 0, .int .u64 0, .int .u64 0, .int .u64 0, .int .u64 0, .slice none 0 0, .slice none 0 0, .float .f64 0] _ _ _ _ _ _) := ⟨S3.out.put 2 (.int .i64 (rdv s 2 1))⟩; generalize World.setCell _ _ _ = wa3 at T3 ⊢; (try clear z); (try clear zf); clear S3)
    | (go_at_call 28; refine Classical.byCases (p := s.size < 11) (fun hN => by (refine (large_bad w _ g s 3 (by have := HQ.out; omega) (by omega) T3.out.I T3.out.B).mono ?_; rintro e w' ⟨rfl, hb, hk⟩; exact door_bad w _ g2 g3 _ D 10 _ N23.out T3.out.sz (hk.blk T3.out.K2 T3.out.n2 (by simp)) (hk.blk T3.out.K3 T3.out.n3 (by simp)) L2.out L3.out hb (by rw [HD.out]; exact if_pos hN) rfl rfl)) (fun hN => ?_); have HE : Aside0 (D = d4 s) := ⟨by rw [HD.out]; exact if_neg hN⟩; have HR : Aside0 (11 ≤ s.size) := ⟨by omega⟩; clear HD HQ hN; have HD := HE; have HQ := HR; clear HE HR; refine (large_ok w _ g s 3 HS.out (by have := HQ.out; omega) T3.out.I T3.out.B).mono ?_; rintro e wb3 ⟨rfl, hi, hb, hk⟩; have S4 := Aside0.mk (T3.out.call hi hb hk); have z := S4.out.c2 3; have zf := S4.out.f2 3; clear hi hb hk T3)
    | (refine wpList_load_row rfl 65 (.tmp 4) rfl g4 rfl 65 #[.pointer (some ⟨g, 0, none⟩)] (0, 0) _ (S4.out.put 3 (.int .u64 (rdv s 3 8))).K4 Try.underlying65 rfl size65 ?_; have T4 : Aside0 (De w _ g g2 g3 g4 s _ #[.int .i64 (rdv s 0 1), .int .i64 (rdv s 1 1), .int .i64 (rdv s 2 1), .int .u64 (rdv s 3 8), .int .i64 0, .slice none 0 0, .int .u64 0, .int .u64 0, .int .u64 0, .int .u64 0, .int .u64 0, .int .u64 0, .int .u64 0, .slice none 0 0, .slice none 0 0, .float .f64 0] _ _ _ _ _ _) := ⟨S4.out.put 3 (.int .u64 (rdv s 3 8))⟩; generalize World.setCell _ _ _ = wa4 at T4 ⊢; (try clear z); (try clear zf); clear S4)
    | (go_at_call 27; refine Classical.byCases (p := s.size < 12) (fun hN => by (refine (small_bad w _ g s 11 (by have := HQ.out; omega) (by omega) T4.out.I T4.out.B).mono ?_; rintro e w' ⟨rfl, hb, hk⟩; exact door_bad w _ g2 g3 _ D 10 _ N23.out T4.out.sz (hk.blk T4.out.K2 T4.out.n2 (by simp)) (hk.blk T4.out.K3 T4.out.n3 (by simp)) L2.out L3.out hb (by rw [HD.out]; exact if_pos hN) rfl rfl)) (fun hN => ?_); have HE : Aside0 (D = d5 s) := ⟨by rw [HD.out]; exact if_neg hN⟩; have HR : Aside0 (12 ≤ s.size) := ⟨by omega⟩; clear HD HQ hN; have HD := HE; have HQ := HR; clear HE HR; refine (small_ok w _ g s 11 HS.out (by have := HQ.out; omega) T4.out.I T4.out.B).mono ?_; rintro e wb4 ⟨rfl, hi, hb, hk⟩; have S5 := Aside0.mk (T4.out.call hi hb hk); have z := S5.out.c2 4; have zf := S5.out.f2 4; clear hi hb hk T4)
    | (refine wpList_load_row rfl 65 (.tmp 4) rfl g4 rfl 65 #[.pointer (some ⟨g, 0, none⟩)] (0, 0) _ (S5.out.put 4 (.int .i64 (rdv s 11 1))).K4 Try.underlying65 rfl size65 ?_; have T5 : Aside0 (De w _ g g2 g3 g4 s _ #[.int .i64 (rdv s 0 1), .int .i64 (rdv s 1 1), .int .i64 (rdv s 2 1), .int .u64 (rdv s 3 8), .int .i64 (rdv s 11 1), .slice none 0 0, .int .u64 0, .int .u64 0, .int .u64 0, .int .u64 0, .int .u64 0, .int .u64 0, .int .u64 0, .slice none 0 0, .slice none 0 0, .float .f64 0] _ _ _ _ _ _) := ⟨S5.out.put 4 (.int .i64 (rdv s 11 1))⟩; generalize World.setCell _ _ _ = wa5 at T5 ⊢; (try clear z); (try clear zf); clear S5)
    | (refine wpList_load_row rfl 65 (.tmp 4) rfl g4 rfl 65 #[.pointer (some ⟨g, 0, none⟩)] (0, 0) _ T5.out.K4 Try.underlying65 rfl size65 ?_)
    | (go_at_call 29; refine Or.elim (except_or (listI s (itU s) 8 12)) (fun hN => by (obtain ⟨er, hL⟩ := hN; refine (upd_list_bad w _ g s 12 8 (by have := HQ.out; omega) HS.out T5.out.I T5.out.B er hL).mono ?_; rintro e w' ⟨rfl, hb, hk⟩; exact door_bad w _ g2 g3 _ D er _ N23.out T5.out.sz (hk.blk T5.out.K2 T5.out.n2 (by simp)) (hk.blk T5.out.K3 T5.out.n3 (by simp)) L2.out L3.out hb (by rw [HD.out]; unfold d5; rw [hL]) rfl rfl)) (fun hN => ?_); obtain ⟨⟨l5, q⟩, hL⟩ := hN; have HE : Aside0 (D = d6 s l5 q) := ⟨by rw [HD.out]; unfold d5; rw [hL]⟩; have HL5 := Aside0.mk hL; clear hL HD; have HD := HE; clear HE; refine (upd_list_ok w _ g s 12 8 (by have := HQ.out; omega) HS.out T5.out.I T5.out.B l5 q HL5.out).mono ?_; rintro e wb5 ⟨v, rfl, ho, hi, hq, hb, hk⟩; obtain ⟨A5, c5, rfl⟩ := Kd.R_slice ho; have HR : Aside0 (q ≤ s.size) := ⟨hq⟩; clear HQ; have HQ := HR; clear HR; have S6 := Aside0.mk ((T5.out.call hi hb hk).row5 (Kd.R_mono (Kd.R_lower ho T5.out.B.size) (fun _ _ => trivial))); have z := S6.out.c2 5; have zf := S6.out.f2 5; clear hi hb hk ho hq T5)
    | (refine wpList_load_row rfl 65 (.tmp 4) rfl g4 rfl 65 #[.pointer (some ⟨g, 0, none⟩)] (0, 0) _ (S6.out.put 5 (.slice A5 l5.length c5)).K4 Try.underlying65 rfl size65 ?_; have T6 : Aside0 (De w _ g g2 g3 g4 s _ #[.int .i64 (rdv s 0 1), .int .i64 (rdv s 1 1), .int .i64 (rdv s 2 1), .int .u64 (rdv s 3 8), .int .i64 (rdv s 11 1), .slice A5 l5.length c5, .int .u64 0, .int .u64 0, .int .u64 0, .int .u64 0, .int .u64 0, .int .u64 0, .int .u64 0, .slice none 0 0, .slice none 0 0, .float .f64 0] _ _ _ _ _ _) := ⟨S6.out.put 5 (.slice A5 l5.length c5)⟩; generalize World.setCell _ _ _ = wa6 at T6 ⊢; (try clear z); (try clear zf); clear S6)
    | (go_at_call 31; refine Classical.byCases (p := s.size < q + 16) (fun hN => by (refine (view_bad w _ g s q HS.out (by have := HQ.out; omega) (by omega) T6.out.I T6.out.B).mono ?_; rintro e w' ⟨rfl, hb, hk⟩; exact door_bad w _ g2 g3 _ D 10 _ N23.out T6.out.sz (hk.blk T6.out.K2 T6.out.n2 (by simp)) (hk.blk T6.out.K3 T6.out.n3 (by simp)) L2.out L3.out hb (by rw [HD.out]; exact if_pos hN) rfl rfl)) (fun hN => ?_); have HE : Aside0 (D = d7 s l5 q) := ⟨by rw [HD.out]; exact if_neg hN⟩; have HR : Aside0 (q + 16 ≤ s.size) := ⟨by omega⟩; clear HD HQ hN; have HD := HE; have HQ := HR; clear HE HR; refine (view_ok w _ g s q HS.out (by have := HQ.out; omega) T6.out.I T6.out.B).mono ?_; rintro e wb6 ⟨rfl, hi, hb, hk⟩; have S7 := Aside0.mk (T6.out.call hi hb hk); have z := fun j => S7.out.c2 j; have zf := fun j => S7.out.f2 j; clear hi hb hk T6)
    | (refine wpList_load_row rfl 65 (.tmp 4) rfl g4 rfl 65 #[.pointer (some ⟨g, 0, none⟩)] (0, 0) _ ((S7.out.put 6 (.int .u64 (rdv s q 8))).put 7 (.int .u64 (rdv s (q + 8) 8))).K4 Try.underlying65 rfl size65 ?_; have T7 : Aside0 (De w _ g g2 g3 g4 s _ #[.int .i64 (rdv s 0 1), .int .i64 (rdv s 1 1), .int .i64 (rdv s 2 1), .int .u64 (rdv s 3 8), .int .i64 (rdv s 11 1), .slice A5 l5.length c5, .int .u64 (rdv s q 8), .int .u64 (rdv s (q + 8) 8), .int .u64 0, .int .u64 0, .int .u64 0, .int .u64 0, .int .u64 0, .slice none 0 0, .slice none 0 0, .float .f64 0] _ _ _ _ _ _) := ⟨(S7.out.put 6 (.int .u64 (rdv s q 8))).put 7 (.int .u64 (rdv s (q + 8) 8))⟩; generalize World.setCell _ _ _ = wa7 at T7 ⊢; (try clear z); (try clear zf); clear S7)
    | (go_at_call 28; refine Classical.byCases (p := s.size < q + 24) (fun hN => by (refine (large_bad w _ g s (q + 16) (by have := HQ.out; omega) (by omega) T7.out.I T7.out.B).mono ?_; rintro e w' ⟨rfl, hb, hk⟩; exact door_bad w _ g2 g3 _ D 10 _ N23.out T7.out.sz (hk.blk T7.out.K2 T7.out.n2 (by simp)) (hk.blk T7.out.K3 T7.out.n3 (by simp)) L2.out L3.out hb (by rw [HD.out]; exact if_pos hN) rfl rfl)) (fun hN => ?_); have HE : Aside0 (D = d8 s l5 q) := ⟨by rw [HD.out]; exact if_neg hN⟩; have HR : Aside0 (q + 24 ≤ s.size) := ⟨by omega⟩; clear HD HQ hN; have HD := HE; have HQ := HR; clear HE HR; refine (large_ok w _ g s (q + 16) HS.out (by have := HQ.out; omega) T7.out.I T7.out.B).mono ?_; rintro e wb7 ⟨rfl, hi, hb, hk⟩; have S8 := Aside0.mk (T7.out.call hi hb hk); have z := S8.out.c2 8; have zf := S8.out.f2 8; clear hi hb hk T7)
    | (refine wpList_load_row rfl 65 (.tmp 4) rfl g4 rfl 65 #[.pointer (some ⟨g, 0, none⟩)] (0, 0) _ (S8.out.put 8 (.int .u64 (rdv s (q + 16) 8))).K4 Try.underlying65 rfl size65 ?_; have T8 : Aside0 (De w _ g g2 g3 g4 s _ #[.int .i64 (rdv s 0 1), .int .i64 (rdv s 1 1), .int .i64 (rdv s 2 1), .int .u64 (rdv s 3 8), .int .i64 (rdv s 11 1), .slice A5 l5.length c5, .int .u64 (rdv s q 8), .int .u64 (rdv s (q + 8) 8), .int .u64 (rdv s (q + 16) 8), .int .u64 0, .int .u64 0, .int .u64 0, .int .u64 0, .slice none 0 0, .slice none 0 0, .float .f64 0] _ _ _ _ _ _) := ⟨S8.out.put 8 (.int .u64 (rdv s (q + 16) 8))⟩; generalize World.setCell _ _ _ = wa8 at T8 ⊢; (try clear z); (try clear zf); clear S8)
    | (go_at_call 28; refine Classical.byCases (p := s.size < q + 32) (fun hN => by (refine (large_bad w _ g s (q + 24) (by have := HQ.out; omega) (by omega) T8.out.I T8.out.B).mono ?_; rintro e w' ⟨rfl, hb, hk⟩; exact door_bad w _ g2 g3 _ D 10 _ N23.out T8.out.sz (hk.blk T8.out.K2 T8.out.n2 (by simp)) (hk.blk T8.out.K3 T8.out.n3 (by simp)) L2.out L3.out hb (by rw [HD.out]; exact if_pos hN) rfl rfl)) (fun hN => ?_); have HE : Aside0 (D = d9 s l5 q) := ⟨by rw [HD.out]; exact if_neg hN⟩; have HR : Aside0 (q + 32 ≤ s.size) := ⟨by omega⟩; clear HD HQ hN; have HD := HE; have HQ := HR; clear HE HR; refine (large_ok w _ g s (q + 24) HS.out (by have := HQ.out; omega) T8.out.I T8.out.B).mono ?_; rintro e wb8 ⟨rfl, hi, hb, hk⟩; have S9 := Aside0.mk (T8.out.call hi hb hk); have z := S9.out.c2 9; have zf := S9.out.f2 9; clear hi hb hk T8)
    | (refine wpList_load_row rfl 65 (.tmp 4) rfl g4 rfl 65 #[.pointer (some ⟨g, 0, none⟩)] (0, 0) _ (S9.out.put 9 (.int .u64 (rdv s (q + 24) 8))).K4 Try.underlying65 rfl size65 ?_; have T9 : Aside0 (De w _ g g2 g3 g4 s _ #[.int .i64 (rdv s 0 1), .int .i64 (rdv s 1 1), .int .i64 (rdv s 2 1), .int .u64 (rdv s 3 8), .int .i64 (rdv s 11 1), .slice A5 l5.length c5, .int .u64 (rdv s q 8), .int .u64 (rdv s (q + 8) 8), .int .u64 (rdv s (q + 16) 8), .int .u64 (rdv s (q + 24) 8), .int .u64 0, .int .u64 0, .int .u64 0, .slice none 0 0, .slice none 0 0, .float .f64 0] _ _ _ _ _ _) := ⟨S9.out.put 9 (.int .u64 (rdv s (q + 24) 8))⟩; generalize World.setCell _ _ _ = wa9 at T9 ⊢; (try clear z); (try clear zf); clear S9)
    | (go_at_call 31; refine Classical.byCases (p := s.size < q + 48) (fun hN => by (refine (view_bad w _ g s (q + 32) HS.out (by have := HQ.out; omega) (by omega) T9.out.I T9.out.B).mono ?_; rintro e w' ⟨rfl, hb, hk⟩; exact door_bad w _ g2 g3 _ D 10 _ N23.out T9.out.sz (hk.blk T9.out.K2 T9.out.n2 (by simp)) (hk.blk T9.out.K3 T9.out.n3 (by simp)) L2.out L3.out hb (by rw [HD.out]; exact if_pos hN) rfl rfl)) (fun hN => ?_); have HE : Aside0 (D = d10 s l5 q) := ⟨by rw [HD.out]; exact if_neg hN⟩; have HR : Aside0 (q + 48 ≤ s.size) := ⟨by omega⟩; clear HD HQ hN; have HD := HE; have HQ := HR; clear HE HR; refine (view_ok w _ g s (q + 32) HS.out (by have := HQ.out; omega) T9.out.I T9.out.B).mono ?_; rintro e wb9 ⟨rfl, hi, hb, hk⟩; have S10 := Aside0.mk (T9.out.call hi hb hk); have z := fun j => S10.out.c2 j; have zf := fun j => S10.out.f2 j; clear hi hb hk T9)
    | (refine wpList_load_row rfl 65 (.tmp 4) rfl g4 rfl 65 #[.pointer (some ⟨g, 0, none⟩)] (0, 0) _ ((S10.out.put 10 (.int .u64 (rdv s (q + 32) 8))).put 11 (.int .u64 (rdv s (q + 32 + 8) 8))).K4 Try.underlying65 rfl size65 ?_; have T10 : Aside0 (De w _ g g2 g3 g4 s _ #[.int .i64 (rdv s 0 1), .int .i64 (rdv s 1 1), .int .i64 (rdv s 2 1), .int .u64 (rdv s 3 8), .int .i64 (rdv s 11 1), .slice A5 l5.length c5, .int .u64 (rdv s q 8), .int .u64 (rdv s (q + 8) 8), .int .u64 (rdv s (q + 16) 8), .int .u64 (rdv s (q + 24) 8), .int .u64 (rdv s (q + 32) 8), .int .u64 (rdv s (q + 32 + 8) 8), .int .u64 0, .slice none 0 0, .slice none 0 0, .float .f64 0] _ _ _ _ _ _) := ⟨(S10.out.put 10 (.int .u64 (rdv s (q + 32) 8))).put 11 (.int .u64 (rdv s (q + 32 + 8) 8))⟩; generalize World.setCell _ _ _ = wa10 at T10 ⊢; (try clear z); (try clear zf); clear S10)
    | (go_at_call 28; refine Classical.byCases (p := s.size < q + 56) (fun hN => by (refine (large_bad w _ g s (q + 48) (by have := HQ.out; omega) (by omega) T10.out.I T10.out.B).mono ?_; rintro e w' ⟨rfl, hb, hk⟩; exact door_bad w _ g2 g3 _ D 10 _ N23.out T10.out.sz (hk.blk T10.out.K2 T10.out.n2 (by simp)) (hk.blk T10.out.K3 T10.out.n3 (by simp)) L2.out L3.out hb (by rw [HD.out]; exact if_pos hN) rfl rfl)) (fun hN => ?_); have HE : Aside0 (D = d11 s l5 q) := ⟨by rw [HD.out]; exact if_neg hN⟩; have HR : Aside0 (q + 56 ≤ s.size) := ⟨by omega⟩; clear HD HQ hN; have HD := HE; have HQ := HR; clear HE HR; refine (large_ok w _ g s (q + 48) HS.out (by have := HQ.out; omega) T10.out.I T10.out.B).mono ?_; rintro e wb10 ⟨rfl, hi, hb, hk⟩; have S11 := Aside0.mk (T10.out.call hi hb hk); have z := S11.out.c2 12; have zf := S11.out.f2 12; clear hi hb hk T10)
    | (refine wpList_load_row rfl 65 (.tmp 4) rfl g4 rfl 65 #[.pointer (some ⟨g, 0, none⟩)] (0, 0) _ (S11.out.put 12 (.int .u64 (rdv s (q + 48) 8))).K4 Try.underlying65 rfl size65 ?_; have T11 : Aside0 (De w _ g g2 g3 g4 s _ #[.int .i64 (rdv s 0 1), .int .i64 (rdv s 1 1), .int .i64 (rdv s 2 1), .int .u64 (rdv s 3 8), .int .i64 (rdv s 11 1), .slice A5 l5.length c5, .int .u64 (rdv s q 8), .int .u64 (rdv s (q + 8) 8), .int .u64 (rdv s (q + 16) 8), .int .u64 (rdv s (q + 24) 8), .int .u64 (rdv s (q + 32) 8), .int .u64 (rdv s (q + 32 + 8) 8), .int .u64 (rdv s (q + 48) 8), .slice none 0 0, .slice none 0 0, .float .f64 0] _ _ _ _ _ _) := ⟨S11.out.put 12 (.int .u64 (rdv s (q + 48) 8))⟩; generalize World.setCell _ _ _ = wa11 at T11 ⊢; (try clear z); (try clear zf); clear S11)
    | (refine wpList_load_row rfl 65 (.tmp 4) rfl g4 rfl 65 #[.pointer (some ⟨g, 0, none⟩)] (0, 0) _ T11.out.K4 Try.underlying65 rfl size65 ?_)
    | (go_at_call 32; refine Or.elim (except_or (listI s (itP s) 6 (q + 56))) (fun hN => by (obtain ⟨er, hL⟩ := hN; refine (pc_list_bad w _ g s (q + 56) 6 (by have := HQ.out; omega) HS.out T11.out.I T11.out.B er hL).mono ?_; rintro e w' ⟨rfl, hb, hk⟩; exact door_bad w _ g2 g3 _ D er _ N23.out T11.out.sz (hk.blk T11.out.K2 T11.out.n2 (by simp)) (hk.blk T11.out.K3 T11.out.n3 (by simp)) L2.out L3.out hb (by rw [HD.out]; unfold d11; rw [hL]) rfl rfl)) (fun hN => ?_); obtain ⟨⟨l13, q2⟩, hL⟩ := hN; have HE : Aside0 (D = d12 s l5 q l13 q2) := ⟨by rw [HD.out]; unfold d11; rw [hL]⟩; have HL13 := Aside0.mk hL; clear hL HD; have HD := HE; clear HE; refine (pc_list_ok w _ g s (q + 56) 6 (by have := HQ.out; omega) HS.out T11.out.I T11.out.B l13 q2 HL13.out).mono ?_; rintro e wb11 ⟨v, rfl, ho, hi, hq, hb, hk⟩; obtain ⟨A13, c13, rfl⟩ := Kd.R_slice ho; have HR : Aside0 (q2 ≤ s.size) := ⟨hq⟩; clear HQ; have HQ := HR; clear HR; have S12 := Aside0.mk ((T11.out.call hi hb hk).row13 (Kd.R_mono (Kd.R_lower ho T11.out.B.size) (fun _ _ => trivial))); have z := S12.out.c2 13; have zf := S12.out.f2 13; clear hi hb hk ho hq T11)
    | (refine wpList_load_row rfl 65 (.tmp 4) rfl g4 rfl 65 #[.pointer (some ⟨g, 0, none⟩)] (0, 0) _ (S12.out.put 13 (.slice A13 l13.length c13)).K4 Try.underlying65 rfl size65 ?_; have T12 : Aside0 (De w _ g g2 g3 g4 s _ #[.int .i64 (rdv s 0 1), .int .i64 (rdv s 1 1), .int .i64 (rdv s 2 1), .int .u64 (rdv s 3 8), .int .i64 (rdv s 11 1), .slice A5 l5.length c5, .int .u64 (rdv s q 8), .int .u64 (rdv s (q + 8) 8), .int .u64 (rdv s (q + 16) 8), .int .u64 (rdv s (q + 24) 8), .int .u64 (rdv s (q + 32) 8), .int .u64 (rdv s (q + 32 + 8) 8), .int .u64 (rdv s (q + 48) 8), .slice A13 l13.length c13, .slice none 0 0, .float .f64 0] _ _ _ _ _ _) := ⟨S12.out.put 13 (.slice A13 l13.length c13)⟩; generalize World.setCell _ _ _ = wa12 at T12 ⊢; (try clear z); (try clear zf); clear S12)
    | (refine wpList_load_row rfl 65 (.tmp 4) rfl g4 rfl 65 #[.pointer (some ⟨g, 0, none⟩)] (0, 0) _ T12.out.K4 Try.underlying65 rfl size65 ?_)
    | (go_at_call 34; refine Or.elim (except_or (listI s (itX s) 16 q2)) (fun hN => by (obtain ⟨er, hL⟩ := hN; refine (sp_list_bad w _ g s q2 16 (by have := HQ.out; omega) HS.out T12.out.I T12.out.B er hL).mono ?_; rintro e w' ⟨rfl, hb, hk⟩; exact door_bad w _ g2 g3 _ D er _ N23.out T12.out.sz (hk.blk T12.out.K2 T12.out.n2 (by simp)) (hk.blk T12.out.K3 T12.out.n3 (by simp)) L2.out L3.out hb (by rw [HD.out]; unfold d12; rw [hL]) rfl rfl)) (fun hN => ?_); obtain ⟨⟨l14, q3⟩, hL⟩ := hN; have HE : Aside0 (D = d13 s l5 q l13 l14 q3) := ⟨by rw [HD.out]; unfold d12; rw [hL]⟩; have HL14 := Aside0.mk hL; clear hL HD; have HD := HE; clear HE; refine (sp_list_ok w _ g s q2 16 (by have := HQ.out; omega) HS.out T12.out.I T12.out.B l14 q3 HL14.out).mono ?_; rintro e wb12 ⟨v, rfl, ho, hi, hq, hb, hk⟩; obtain ⟨A14, c14, rfl⟩ := Kd.R_slice ho; have HR : Aside0 (q3 ≤ s.size) := ⟨hq⟩; clear HQ; have HQ := HR; clear HR; have S13 := Aside0.mk ((T12.out.call hi hb hk).row14 (Kd.R_mono (Kd.R_lower ho T12.out.B.size) (fun _ _ => trivial))); have z := S13.out.c2 14; have zf := S13.out.f2 14; clear hi hb hk ho hq T12; have x4 := blk_cell (S13.out.put 14 (.slice A14 l14.length c14)).K4 0))
  have S20 : Aside0 (De w _ g g2 g3 g4 s (q3 : Int) #[.int .i64 (rdv s 0 1), .int .i64 (rdv s 1 1), .int .i64 (rdv s 2 1), .int .u64 (rdv s 3 8), .int .i64 (rdv s 11 1), .slice A5 l5.length c5, .int .u64 (rdv s q 8), .int .u64 (rdv s (q + 8) 8), .int .u64 (rdv s (q + 16) 8), .int .u64 (rdv s (q + 24) 8), .int .u64 (rdv s (q + 32) 8), .int .u64 (rdv s (q + 32 + 8) 8), .int .u64 (rdv s (q + 48) 8), .slice A13 l13.length c13, .slice A14 l14.length c14, .float .f64 0] (.slice A5 l5.length c5) (.slice A13 l13.length c13) (.slice A14 l14.length c14) l5 l13 l14) := ⟨S13.out.put 14 (.slice A14 l14.length c14)⟩
  generalize World.setCell _ _ _ = w20 at S20 x4 ⊢
  clear S13 z zf
  by_cases hN : s.size < q3 + 8
  · have HN := Aside0.mk hN
    clear hN
    go_wp2_with (first
      | (go_at_call 37; refine (real37_bad w _ g s q3 HQ.out HN.out S20.out.I S20.out.B).mono ?_; rintro e w' ⟨x_, rfl, hb, hk⟩; have HB_ := Aside0.mk hb; have HK_ := Aside0.mk hk; clear hb hk)
      | (go_at_call 36; refine (must_flt_bad _ 10 (by decide) _).mono ?_; rintro e w'' ⟨rfl, rfl⟩))
    have hb := HB_.out
    have hk := HK_.out
    exact door_bad w _ g2 g3 _ D 10 _ N23.out S20.out.sz (hk.blk S20.out.K2 S20.out.n2 (by simp)) (hk.blk S20.out.K3 S20.out.n3 (by simp)) L2.out L3.out hb (by rw [HD.out]; exact if_pos HN.out) rfl rfl
  have HD1 : Aside0 (D = d14 s l5 q l13 l14 q3) := ⟨by rw [HD.out]; exact if_neg hN⟩
  clear HD
  have HD := HD1
  have HR : Aside0 (q3 + 8 ≤ s.size) := ⟨by omega⟩
  clear HD1 HQ hN
  by_cases hN : q3 + 8 < s.size
  · have HN := Aside0.mk hN
    clear hN
    go_wp2_with (first
      | (go_at_call 37; refine (real37_ok w _ g s q3 HS.out HR.out S20.out.I S20.out.B).mono ?_; rintro e w21 ⟨rfl, hi, hb, hk⟩; have S21 := Aside0.mk (S20.out.call hi hb hk); have z := S21.out.c2 15; have zf := S21.out.f2 15; have y4 := blk_cell (S21.out.put 15 (.float .f64 (loadF s q3))).K4 0; clear hi hb hk S20 x4)
      | (go_at_call 36; refine (must_flt_ok _ _).mono ?_; rintro e w'' ⟨rfl, rfl⟩)
      | (go_at_call 38; refine (end_more w _ g s (q3 + 8) HS.out HN.out (S21.out.put 15 (.float .f64 (loadF s q3))).I (S21.out.put 15 (.float .f64 (loadF s q3))).B).mono ?_; rintro e w22 ⟨rfl, hi, hb, hk⟩; have S22 := Aside0.mk ((S21.out.put 15 (.float .f64 (loadF s q3))).call hi hb hk); have x5 := blk_cell S22.out.K4 0; clear hi hb hk S21 z zf y4)
      | (go_at_call 38; refine (end_more w _ g s (q3 + 8) HS.out HN.out S22.out.I S22.out.B).mono ?_; rintro e w23 ⟨rfl, hi, hb, hk⟩; have S23 := Aside0.mk (S22.out.call hi hb hk); clear hi hb hk S22 x5))
    have hb := S23.out.B
    exact door_bad w _ g2 g3 _ D 11 _ N23.out S23.out.sz S23.out.K2 S23.out.K3 L2.out L3.out hb (by rw [HD.out]; exact if_pos HN.out) rfl rfl
  have HD1 : Aside0 (D = d15 s l5 q l13 l14 q3) := ⟨by rw [HD.out]; exact if_neg hN⟩
  clear HD
  have HD := HD1
  have HE : Aside0 (q3 + 8 = s.size) := ⟨by have := HR.out; omega⟩
  clear HD1 hN
  have hi32 : (Try.prog.info? 32).map (·.size) = some 16 := by kernel_rfl
  by_cases h1 : rdv s 0 1 < 1
  · have H1 := Aside0.mk h1
    go_wp2_with (first
      | (go_at_call 37; refine (real37_ok w _ g s q3 HS.out HR.out S20.out.I S20.out.B).mono ?_; rintro e w21 ⟨rfl, hi, hb, hk⟩; have S21 := Aside0.mk (S20.out.call hi hb hk); have z := S21.out.c2 15; have zf := S21.out.f2 15; have y4 := blk_cell (S21.out.put 15 (.float .f64 (loadF s q3))).K4 0; clear hi hb hk S20 x4)
      | (go_at_call 36; refine (must_flt_ok _ _).mono ?_; rintro e w'' ⟨rfl, rfl⟩)
      | (go_at_call 38; refine (end_done w _ g s (q3 + 8) HS.out HE.out (S21.out.put 15 (.float .f64 (loadF s q3))).I (S21.out.put 15 (.float .f64 (loadF s q3))).B).mono ?_; rintro e w22 ⟨rfl, hi, hb, hk⟩; have S22 : Aside0 (De w w22 g g2 g3 g4 s ((q3 + 8 : Nat) : Int) #[.int .i64 (rdv s 0 1), .int .i64 (rdv s 1 1), .int .i64 (rdv s 2 1), .int .u64 (rdv s 3 8), .int .i64 (rdv s 11 1), .slice A5 l5.length c5, .int .u64 (rdv s q 8), .int .u64 (rdv s (q + 8) 8), .int .u64 (rdv s (q + 16) 8), .int .u64 (rdv s (q + 24) 8), .int .u64 (rdv s (q + 32) 8), .int .u64 (rdv s (q + 32 + 8) 8), .int .u64 (rdv s (q + 48) 8), .slice A13 l13.length c13, .slice A14 l14.length c14, .float .f64 (loadF s q3)] (.slice A5 l5.length c5) (.slice A13 l13.length c13) (.slice A14 l14.length c14) l5 l13 l14) := ⟨(S21.out.put 15 (.float .f64 (loadF s q3))).call hi hb hk⟩; have z := S22.out.c2 0; clear hi hb hk S21 zf y4))
    have hb := S22.out.B
    exact door_bad w _ g2 g3 _ D 150 _ N23.out S22.out.sz S22.out.K2 S22.out.K3 L2.out L3.out hb (by rw [HD.out]; exact if_pos (.inl H1.out)) rfl rfl
  by_cases h2 : 14 < rdv s 0 1
  · have H2 := Aside0.mk h2
    go_wp2_with (first
      | (go_at_call 37; refine (real37_ok w _ g s q3 HS.out HR.out S20.out.I S20.out.B).mono ?_; rintro e w21 ⟨rfl, hi, hb, hk⟩; have S21 := Aside0.mk (S20.out.call hi hb hk); have z := S21.out.c2 15; have zf := S21.out.f2 15; have y4 := blk_cell (S21.out.put 15 (.float .f64 (loadF s q3))).K4 0; clear hi hb hk S20 x4)
      | (go_at_call 36; refine (must_flt_ok _ _).mono ?_; rintro e w'' ⟨rfl, rfl⟩)
      | (go_at_call 38; refine (end_done w _ g s (q3 + 8) HS.out HE.out (S21.out.put 15 (.float .f64 (loadF s q3))).I (S21.out.put 15 (.float .f64 (loadF s q3))).B).mono ?_; rintro e w22 ⟨rfl, hi, hb, hk⟩; have S22 : Aside0 (De w w22 g g2 g3 g4 s ((q3 + 8 : Nat) : Int) #[.int .i64 (rdv s 0 1), .int .i64 (rdv s 1 1), .int .i64 (rdv s 2 1), .int .u64 (rdv s 3 8), .int .i64 (rdv s 11 1), .slice A5 l5.length c5, .int .u64 (rdv s q 8), .int .u64 (rdv s (q + 8) 8), .int .u64 (rdv s (q + 16) 8), .int .u64 (rdv s (q + 24) 8), .int .u64 (rdv s (q + 32) 8), .int .u64 (rdv s (q + 32 + 8) 8), .int .u64 (rdv s (q + 48) 8), .slice A13 l13.length c13, .slice A14 l14.length c14, .float .f64 (loadF s q3)] (.slice A5 l5.length c5) (.slice A13 l13.length c13) (.slice A14 l14.length c14) l5 l13 l14) := ⟨(S21.out.put 15 (.float .f64 (loadF s q3))).call hi hb hk⟩; have z := S22.out.c2 0; clear hi hb hk S21 zf y4))
    have hb := S22.out.B
    exact door_bad w _ g2 g3 _ D 150 _ N23.out S22.out.sz S22.out.K2 S22.out.K3 L2.out L3.out hb (by rw [HD.out]; exact if_pos (.inr H2.out)) rfl rfl
  have HD1 : Aside0 (D = d16 s l5 q l13 l14 q3) := ⟨by rw [HD.out]; exact if_neg (by rintro (h | h); exact h1 h; exact h2 h)⟩
  clear HD
  have HD := HD1
  clear HD1
  cases hM : mayL (rdv s 0 1) (rdv s 1 1) (rdv s 2 1) (rdv s 11 1) l5 l13 l14 (loadF s q3)
  · have HM := Aside0.mk hM
    clear hM
    go_wp2_with (first
      | (go_at_call 37; refine (real37_ok w _ g s q3 HS.out HR.out S20.out.I S20.out.B).mono ?_; rintro e w21 ⟨rfl, hi, hb, hk⟩; have S21 := Aside0.mk (S20.out.call hi hb hk); have z := S21.out.c2 15; have zf := S21.out.f2 15; have y4 := blk_cell (S21.out.put 15 (.float .f64 (loadF s q3))).K4 0; clear hi hb hk S20 x4)
      | (go_at_call 36; refine (must_flt_ok _ _).mono ?_; rintro e w'' ⟨rfl, rfl⟩)
      | (go_at_call 38; refine (end_done w _ g s (q3 + 8) HS.out HE.out (S21.out.put 15 (.float .f64 (loadF s q3))).I (S21.out.put 15 (.float .f64 (loadF s q3))).B).mono ?_; rintro e w22 ⟨rfl, hi, hb, hk⟩; have S22 : Aside0 (De w w22 g g2 g3 g4 s ((q3 + 8 : Nat) : Int) #[.int .i64 (rdv s 0 1), .int .i64 (rdv s 1 1), .int .i64 (rdv s 2 1), .int .u64 (rdv s 3 8), .int .i64 (rdv s 11 1), .slice A5 l5.length c5, .int .u64 (rdv s q 8), .int .u64 (rdv s (q + 8) 8), .int .u64 (rdv s (q + 16) 8), .int .u64 (rdv s (q + 24) 8), .int .u64 (rdv s (q + 32) 8), .int .u64 (rdv s (q + 32 + 8) 8), .int .u64 (rdv s (q + 48) 8), .slice A13 l13.length c13, .slice A14 l14.length c14, .float .f64 (loadF s q3)] (.slice A5 l5.length c5) (.slice A13 l13.length c13) (.slice A14 l14.length c14) l5 l13 l14) := ⟨(S21.out.put 15 (.float .f64 (loadF s q3))).call hi hb hk⟩; have z := S22.out.c2 0; clear hi hb hk S21 zf y4)
      | (refine wpList_load_row rfl 32 (.tmp 2) rfl g2 rfl 32 #[.int .i64 (rdv s 0 1), .int .i64 (rdv s 1 1), .int .i64 (rdv s 2 1), .int .u64 (rdv s 3 8), .int .i64 (rdv s 11 1), .slice A5 l5.length c5, .int .u64 (rdv s q 8), .int .u64 (rdv s (q + 8) 8), .int .u64 (rdv s (q + 16) 8), .int .u64 (rdv s (q + 24) 8), .int .u64 (rdv s (q + 32) 8), .int .u64 (rdv s (q + 32 + 8) 8), .int .u64 (rdv s (q + 48) 8), .slice A13 l13.length c13, .slice A14 l14.length c14, .float .f64 (loadF s q3)] (0, 0) _ S22.out.K2 Try.underlying32 rfl hi32 ?_)
      | (go_at_call 18; refine (may_at (rdv s 0 1) (rdv s 1 1) (rdv s 2 1) (rdv s 3 8) (rdv s 11 1) A5 c5 l5 (rdv s q 8) (rdv s (q + 8) 8) (rdv s (q + 16) 8) (rdv s (q + 24) 8) (rdv s (q + 32) 8) (rdv s (q + 32 + 8) 8) (rdv s (q + 48) 8) A13 c13 l13 A14 c14 l14 (loadF s q3) _ (Kd.R_reads' S22.out.R5).2.2 (Kd.R_reads' S22.out.R5).2.1 (Kd.R_reads' S22.out.R13).2.2 (Kd.R_reads' S22.out.R13).2.1 (Kd.R_reads' S22.out.R14).2.2 (Kd.R_reads' S22.out.R14).2.1).mono ?_; rintro e w23 ⟨rfl, hb⟩; rw [HM.out]; have S23 := Aside0.mk (S22.out.below hb); clear hb z S22))
    have hb := S23.out.B
    exact door_bad w _ g2 g3 _ D 1 _ N23.out S23.out.sz S23.out.K2 S23.out.K3 L2.out L3.out hb (by rw [HD.out]; exact if_pos HM.out) rfl rfl
  · have HM := Aside0.mk hM
    clear hM
    go_wp2_with (first
      | (go_at_call 37; refine (real37_ok w _ g s q3 HS.out HR.out S20.out.I S20.out.B).mono ?_; rintro e w21 ⟨rfl, hi, hb, hk⟩; have S21 := Aside0.mk (S20.out.call hi hb hk); have z := S21.out.c2 15; have zf := S21.out.f2 15; have y4 := blk_cell (S21.out.put 15 (.float .f64 (loadF s q3))).K4 0; clear hi hb hk S20 x4)
      | (go_at_call 36; refine (must_flt_ok _ _).mono ?_; rintro e w'' ⟨rfl, rfl⟩)
      | (go_at_call 38; refine (end_done w _ g s (q3 + 8) HS.out HE.out (S21.out.put 15 (.float .f64 (loadF s q3))).I (S21.out.put 15 (.float .f64 (loadF s q3))).B).mono ?_; rintro e w22 ⟨rfl, hi, hb, hk⟩; have S22 : Aside0 (De w w22 g g2 g3 g4 s ((q3 + 8 : Nat) : Int) #[.int .i64 (rdv s 0 1), .int .i64 (rdv s 1 1), .int .i64 (rdv s 2 1), .int .u64 (rdv s 3 8), .int .i64 (rdv s 11 1), .slice A5 l5.length c5, .int .u64 (rdv s q 8), .int .u64 (rdv s (q + 8) 8), .int .u64 (rdv s (q + 16) 8), .int .u64 (rdv s (q + 24) 8), .int .u64 (rdv s (q + 32) 8), .int .u64 (rdv s (q + 32 + 8) 8), .int .u64 (rdv s (q + 48) 8), .slice A13 l13.length c13, .slice A14 l14.length c14, .float .f64 (loadF s q3)] (.slice A5 l5.length c5) (.slice A13 l13.length c13) (.slice A14 l14.length c14) l5 l13 l14) := ⟨(S21.out.put 15 (.float .f64 (loadF s q3))).call hi hb hk⟩; have z := S22.out.c2 0; clear hi hb hk S21 zf y4)
      | (refine wpList_load_row rfl 32 (.tmp 2) rfl g2 rfl 32 #[.int .i64 (rdv s 0 1), .int .i64 (rdv s 1 1), .int .i64 (rdv s 2 1), .int .u64 (rdv s 3 8), .int .i64 (rdv s 11 1), .slice A5 l5.length c5, .int .u64 (rdv s q 8), .int .u64 (rdv s (q + 8) 8), .int .u64 (rdv s (q + 16) 8), .int .u64 (rdv s (q + 24) 8), .int .u64 (rdv s (q + 32) 8), .int .u64 (rdv s (q + 32 + 8) 8), .int .u64 (rdv s (q + 48) 8), .slice A13 l13.length c13, .slice A14 l14.length c14, .float .f64 (loadF s q3)] (0, 0) _ S22.out.K2 Try.underlying32 rfl hi32 ?_)
      | (go_at_call 18; refine (may_at (rdv s 0 1) (rdv s 1 1) (rdv s 2 1) (rdv s 3 8) (rdv s 11 1) A5 c5 l5 (rdv s q 8) (rdv s (q + 8) 8) (rdv s (q + 16) 8) (rdv s (q + 24) 8) (rdv s (q + 32) 8) (rdv s (q + 32 + 8) 8) (rdv s (q + 48) 8) A13 c13 l13 A14 c14 l14 (loadF s q3) _ (Kd.R_reads' S22.out.R5).2.2 (Kd.R_reads' S22.out.R5).2.1 (Kd.R_reads' S22.out.R13).2.2 (Kd.R_reads' S22.out.R13).2.1 (Kd.R_reads' S22.out.R14).2.2 (Kd.R_reads' S22.out.R14).2.1).mono ?_; rintro e w23 ⟨rfl, hb⟩; rw [HM.out]; have S23 := Aside0.mk (S22.out.below hb); clear hb z S22)
      | (refine wpList_load_row rfl 32 (.tmp 2) rfl g2 rfl 32 #[.int .i64 (rdv s 0 1), .int .i64 (rdv s 1 1), .int .i64 (rdv s 2 1), .int .u64 (rdv s 3 8), .int .i64 (rdv s 11 1), .slice A5 l5.length c5, .int .u64 (rdv s q 8), .int .u64 (rdv s (q + 8) 8), .int .u64 (rdv s (q + 16) 8), .int .u64 (rdv s (q + 24) 8), .int .u64 (rdv s (q + 32) 8), .int .u64 (rdv s (q + 32 + 8) 8), .int .u64 (rdv s (q + 48) 8), .slice A13 l13.length c13, .slice A14 l14.length c14, .float .f64 (loadF s q3)] (0, 0) _ S23.out.K2 Try.underlying32 rfl hi32 ?_)
      | ((with_reducible refine gate_store (t := 32) (p := 2) rfl ?_); go_loud (refine wpList_store_row rfl 32 (.tmp 2) (.tmp 89) rfl g2 #[.int .i64 (rdv s 0 1), .int .i64 (rdv s 1 1), .int .i64 (rdv s 2 1), .int .u64 (rdv s 3 8), .int .i64 (rdv s 11 1), .slice A5 l5.length c5, .int .u64 (rdv s q 8), .int .u64 (rdv s (q + 8) 8), .int .u64 (rdv s (q + 16) 8), .int .u64 (rdv s (q + 24) 8), .int .u64 (rdv s (q + 32) 8), .int .u64 (rdv s (q + 32 + 8) 8), .int .u64 (rdv s (q + 48) 8), .slice A13 l13.length c13, .slice A14 l14.length c14, .float .f64 (loadF s q3)] rfl rfl 32 #[.int .i64 (rdv s 0 1), .int .i64 (rdv s 1 1), .int .i64 (rdv s 2 1), .int .u64 (rdv s 3 8), .int .i64 (rdv s 11 1), .slice A5 l5.length c5, .int .u64 (rdv s q 8), .int .u64 (rdv s (q + 8) 8), .int .u64 (rdv s (q + 16) 8), .int .u64 (rdv s (q + 24) 8), .int .u64 (rdv s (q + 32) 8), .int .u64 (rdv s (q + 32 + 8) 8), .int .u64 (rdv s (q + 48) 8), .slice A13 l13.length c13, .slice A14 l14.length c14, .float .f64 (loadF s q3)] S23.out.K2 hi32 rfl (one_L _ _ _ _ _ _ _ _ _ _ _ _ _ _ _ _ _ _ _ _ _ _) ?_); have RK2 := Aside0.mk (setRow_heap w23 g2 #[.int .i64 (rdv s 0 1), .int .i64 (rdv s 1 1), .int .i64 (rdv s 2 1), .int .u64 (rdv s 3 8), .int .i64 (rdv s 11 1), .slice A5 l5.length c5, .int .u64 (rdv s q 8), .int .u64 (rdv s (q + 8) 8), .int .u64 (rdv s (q + 16) 8), .int .u64 (rdv s (q + 24) 8), .int .u64 (rdv s (q + 32) 8), .int .u64 (rdv s (q + 32 + 8) 8), .int .u64 (rdv s (q + 48) 8), .slice A13 l13.length c13, .slice A14 l14.length c14, .float .f64 (loadF s q3)] #[.int .i64 (rdv s 0 1), .int .i64 (rdv s 1 1), .int .i64 (rdv s 2 1), .int .u64 (rdv s 3 8), .int .i64 (rdv s 11 1), .slice A5 l5.length c5, .int .u64 (rdv s q 8), .int .u64 (rdv s (q + 8) 8), .int .u64 (rdv s (q + 16) 8), .int .u64 (rdv s (q + 24) 8), .int .u64 (rdv s (q + 32) 8), .int .u64 (rdv s (q + 32 + 8) 8), .int .u64 (rdv s (q + 48) 8), .slice A13 l13.length c13, .slice A14 l14.length c14, .float .f64 (loadF s q3)] 32 (0, 0) S23.out.K2); have RK3 := Aside0.mk ((setRow_other w23 g2 g3 #[.int .i64 (rdv s 0 1), .int .i64 (rdv s 1 1), .int .i64 (rdv s 2 1), .int .u64 (rdv s 3 8), .int .i64 (rdv s 11 1), .slice A5 l5.length c5, .int .u64 (rdv s q 8), .int .u64 (rdv s (q + 8) 8), .int .u64 (rdv s (q + 16) 8), .int .u64 (rdv s (q + 24) 8), .int .u64 (rdv s (q + 32) 8), .int .u64 (rdv s (q + 32 + 8) 8), .int .u64 (rdv s (q + 48) 8), .slice A13 l13.length c13, .slice A14 l14.length c14, .float .f64 (loadF s q3)] (Ne.symm N23.out)).trans S23.out.K3); have RB := Aside0.mk (below_setRow S23.out.B L2.out #[.int .i64 (rdv s 0 1), .int .i64 (rdv s 1 1), .int .i64 (rdv s 2 1), .int .u64 (rdv s 3 8), .int .i64 (rdv s 11 1), .slice A5 l5.length c5, .int .u64 (rdv s q 8), .int .u64 (rdv s (q + 8) 8), .int .u64 (rdv s (q + 16) 8), .int .u64 (rdv s (q + 24) 8), .int .u64 (rdv s (q + 32) 8), .int .u64 (rdv s (q + 32 + 8) 8), .int .u64 (rdv s (q + 48) 8), .slice A13 l13.length c13, .slice A14 l14.length c14, .float .f64 (loadF s q3)]); have RR5 := Aside0.mk (row_step S23.out.R5 S23.out.K2 (by decide) #[.int .i64 (rdv s 0 1), .int .i64 (rdv s 1 1), .int .i64 (rdv s 2 1), .int .u64 (rdv s 3 8), .int .i64 (rdv s 11 1), .slice A5 l5.length c5, .int .u64 (rdv s q 8), .int .u64 (rdv s (q + 8) 8), .int .u64 (rdv s (q + 16) 8), .int .u64 (rdv s (q + 24) 8), .int .u64 (rdv s (q + 32) 8), .int .u64 (rdv s (q + 32 + 8) 8), .int .u64 (rdv s (q + 48) 8), .slice A13 l13.length c13, .slice A14 l14.length c14, .float .f64 (loadF s q3)]); have RR13 := Aside0.mk (row_step S23.out.R13 S23.out.K2 (by decide) #[.int .i64 (rdv s 0 1), .int .i64 (rdv s 1 1), .int .i64 (rdv s 2 1), .int .u64 (rdv s 3 8), .int .i64 (rdv s 11 1), .slice A5 l5.length c5, .int .u64 (rdv s q 8), .int .u64 (rdv s (q + 8) 8), .int .u64 (rdv s (q + 16) 8), .int .u64 (rdv s (q + 24) 8), .int .u64 (rdv s (q + 32) 8), .int .u64 (rdv s (q + 32 + 8) 8), .int .u64 (rdv s (q + 48) 8), .slice A13 l13.length c13, .slice A14 l14.length c14, .float .f64 (loadF s q3)]); have RR14 := Aside0.mk (row_step S23.out.R14 S23.out.K2 (by decide) #[.int .i64 (rdv s 0 1), .int .i64 (rdv s 1 1), .int .i64 (rdv s 2 1), .int .u64 (rdv s 3 8), .int .i64 (rdv s 11 1), .slice A5 l5.length c5, .int .u64 (rdv s q 8), .int .u64 (rdv s (q + 8) 8), .int .u64 (rdv s (q + 16) 8), .int .u64 (rdv s (q + 24) 8), .int .u64 (rdv s (q + 32) 8), .int .u64 (rdv s (q + 32 + 8) 8), .int .u64 (rdv s (q + 48) 8), .slice A13 l13.length c13, .slice A14 l14.length c14, .float .f64 (loadF s q3)]); generalize World.setRow w23 g2 _ = w24 at RK2 RK3 RB RR5 RR13 RR14 ⊢; have z3 := blk_cell RK3.out 0; have zf3 := blk_frozen RK3.out 0; clear S23))
    have Q2 := blk_far (p := ⟨g3, 0, none⟩) RK2.out N23.out (.int .i64 0)
    have Q3 := blk_put RK3.out 0 (.int .i64 0) rfl
    exact door_ok w _ g2 g3 (letterOf s l5 q l13 l14 q3) (.slice A5 l5.length c5) (.slice A13 l13.length c13) (.slice A14 l14.length c14) D _ Q2 Q3 (below_set RB.out L3.out) (by rw [HD.out]; exact if_neg (by rw [HM.out]; decide))
      (Kd.R_mono (Kd.R_far (p := ⟨g3, 0, none⟩) (Kd.R_types RR5.out RK3.out (by decide)) (fun _ h => h.2) _) (fun _ _ => trivial)) (Kd.R_mono (Kd.R_far (p := ⟨g3, 0, none⟩) (Kd.R_types RR13.out RK3.out (by decide)) (fun _ h => h.2) _) (fun _ _ => trivial)) (Kd.R_mono (Kd.R_far (p := ⟨g3, 0, none⟩) (Kd.R_types RR14.out RK3.out (by decide)) (fun _ h => h.2) _) (fun _ _ => trivial)) rfl rfl
end Go.Proofs.Ytondgoabnmgcaaa.B
end
section
/- By hand: Decode's answer in the print's form, and 'shown': a letter is bytes, and back. -/
namespace Go.Proofs.Ytondgoabnmgcaaa.B
open Go.RowKit Go.Proofs.YtondgoabnmgcaaaW.PrintWords Go.Proofs.YtondgoabnmgcaaaW.PrintLast Go.Proofs.YtondgoabnmgcaaaW.PrintMore
open Go.Proofs.YtondgoabnmgcaaaO.R (rdv rbits le)
set_option linter.unusedSimpArgs false
set_option linter.unusedVariables false
theorem C_nil {α : Type} (d : Kd α) (w : World) : Kd.C d w none ([] : List α).length [] := ⟨rfl, by simp, fun h0 => absurd h0 (by simp)⟩
def shownX : S32 := ⟨3, 1, 2, 9, 0, [], ⟨0, 0⟩, 0, 0, ⟨0, 0⟩, 0, [], [], 0⟩
theorem shown_may : mayL 3 1 2 0 [] [] [] 0 = true := by kernel_rfl
theorem shown_okL : okL 3 1 2 9 0 [] 0 0 0 0 0 0 0 [] [] 0 = true := by kernel_rfl
theorem shown_dec : decP (strOfNums (encL 3 1 2 9 0 [] 0 0 0 0 0 0 0 [] [] 0)) = .ok shownX := by kernel_rfl
theorem shown_size : (strOfNums (encL 3 1 2 9 0 [] 0 0 0 0 0 0 0 [] [] 0)).size = 79 := by kernel_rfl
theorem shown_open : Go.Proofs.YtondgoabnmgcaaaG.B.guard_Open.f (sealS (strOfNums (encL 3 1 2 9 0 [] 0 0 0 0 0 0 0 [] [] 0))) = some (strOfNums (encL 3 1 2 9 0 [] 0 0 0 0 0 0 0 [] [] 0), 0) :=
  Go.Proofs.YtondgoabnmgcaaaG.Pure.open_seal _ (by rw [shown_size]; decide)
def conventiclelaw15_shown.f : Option Bool := some true
set_option maxRecDepth 100000 in
set_option maxHeartbeats 2000000 in
theorem conventiclelaw15_shown.calls (r : Bool) (w : World) (h : conventiclelaw15_shown.f = some r) :
    Calls Try.prog 8 #[] w fun e w' => e = .returned (.bool r) ∧ Below w.heap.size w w' := by
  obtain rfl := Option.some.inj h
  clear h
  have HE := fun w : World => Aside0.mk (encode_ok 3 1 2 9 0 none 0 [] 0 0 0 0 0 0 0 none 0 [] none 0 [] 0 w (C_nil _ _) (Nat.le_refl _) (C_nil _ _) (Nat.le_refl _) (C_nil _ _) (Nat.le_refl _) shown_may shown_okL)
  have HD := Aside0.mk shown_dec
  have HO := Aside0.mk shown_open
  have HSZ := Aside0.mk shown_size
  generalize strOfNums (encL 3 1 2 9 0 [] 0 0 0 0 0 0 0 [] [] 0) = s at HE HD HO HSZ
  obtain ⟨t, ht⟩ : ∃ t, sealS s = t := ⟨_, rfl⟩
  rw [ht] at HE HO
  clear ht
  go_enter Try.func8, Try.ntmps8
  go_wp2_with (first
    | (go_at_call 14; refine ((HE _).out).mono ?_; rintro e w1 ⟨rfl, hb⟩; have B1 := Aside0.mk hb; clear hb)
    | (go_at_call 10; refine (decode_walk _ t s HO.out (by rw [HSZ.out]; decide)).mono ?_; rintro e w2 hh; rw [HD.out] at hh; obtain ⟨hb, v5, v13, v14, rfl, r5, r13, r14⟩ := hh; obtain ⟨A5, c5, rfl⟩ := Kd.R_slice r5; obtain ⟨A13, c13, rfl⟩ := Kd.R_slice r13; obtain ⟨A14, c14, rfl⟩ := Kd.R_slice r14; have hc : cellsL shownX (.slice A5 shownX.f5.length c5) (.slice A13 shownX.f11.length c13) (.slice A14 shownX.f12.length c14) = #[.int .i64 3, .int .i64 1, .int .i64 2, .int .u64 9, .int .i64 0, .slice A5 0 c5, .int .u64 0, .int .u64 0, .int .u64 0, .int .u64 0, .int .u64 0, .int .u64 0, .int .u64 0, .slice A13 0 c13, .slice A14 0 c14, .float .f64 0] := rfl; rw [hc]; clear hc; have B2 := Aside0.mk (below_step B1.out hb); clear hb r5 r13 r14)
    | ((with_reducible refine gate_dst (N := 3) rfl ?_); refine box_event ?hg (N := 3) ?hd (cs := #[.int .i64 0, .int .i64 0, .int .i64 0, .int .u64 0, .int .i64 0, .slice none 0 0, .int .u64 0, .int .u64 0, .int .u64 0, .int .u64 0, .int .u64 0, .int .u64 0, .int .u64 0, .slice none 0 0, .slice none 0 0, .float .f64 0]) (t := 32) ?hr ?_; (case hd => rfl); (case hg => rfl); (case hr => first | (go_simp; done) | (go_simp; rfl)); intro g3 hg_ w3 hb_ hB_; have K3 := Aside0.mk hb_; have G3 := Aside0.mk (show w.heap.size ≤ g3 by rw [hg_]; exact B2.out.size); have B3 := Aside0.mk (below_step B2.out hB_); clear hg_ hb_ hB_)
    | ((with_reducible refine gate_store (t := 32) (p := 3) rfl ?_); go_loud (refine wpList_store_row rfl 32 (.tmp 3) (.tmp 13) rfl g3 #[.int .i64 3, .int .i64 1, .int .i64 2, .int .u64 9, .int .i64 0, .slice A5 0 c5, .int .u64 0, .int .u64 0, .int .u64 0, .int .u64 0, .int .u64 0, .int .u64 0, .int .u64 0, .slice A13 0 c13, .slice A14 0 c14, .float .f64 0] rfl rfl 32 #[.int .i64 0, .int .i64 0, .int .i64 0, .int .u64 0, .int .i64 0, .slice none 0 0, .int .u64 0, .int .u64 0, .int .u64 0, .int .u64 0, .int .u64 0, .int .u64 0, .int .u64 0, .slice none 0 0, .slice none 0 0, .float .f64 0] K3.out si32 rfl (one_L _ _ _ _ _ _ _ _ _ _ _ _ _ _ _ _ _ _ _ _ _ _) ?_); have RK := Aside0.mk (setRow_heap w3 g3 #[.int .i64 0, .int .i64 0, .int .i64 0, .int .u64 0, .int .i64 0, .slice none 0 0, .int .u64 0, .int .u64 0, .int .u64 0, .int .u64 0, .int .u64 0, .int .u64 0, .int .u64 0, .slice none 0 0, .slice none 0 0, .float .f64 0] #[.int .i64 3, .int .i64 1, .int .i64 2, .int .u64 9, .int .i64 0, .slice A5 0 c5, .int .u64 0, .int .u64 0, .int .u64 0, .int .u64 0, .int .u64 0, .int .u64 0, .int .u64 0, .slice A13 0 c13, .slice A14 0 c14, .float .f64 0] 32 (0, 0) K3.out); have RB := Aside0.mk (below_setRow B3.out G3.out #[.int .i64 3, .int .i64 1, .int .i64 2, .int .u64 9, .int .i64 0, .slice A5 0 c5, .int .u64 0, .int .u64 0, .int .u64 0, .int .u64 0, .int .u64 0, .int .u64 0, .int .u64 0, .slice A13 0 c13, .slice A14 0 c14, .float .f64 0]); generalize World.setRow w3 g3 _ = w4 at RK RB ⊢; have z := fun j => blk_cell RK.out j))
  go_ret
  exact ⟨rfl, RB.out⟩
end Go.Proofs.Ytondgoabnmgcaaa.B
end
section
namespace Go.Proofs.Ytondgoabnmgcaaa.B
open Go.RowKit Go.Proofs.YtondgoabnmgcaaaW.PrintWords Go.Proofs.YtondgoabnmgcaaaW.PrintLast Go.Proofs.YtondgoabnmgcaaaW.PrintMore
attribute [local go_sem] max2_int min2_int max_two min_two max_three min_three max_four min_four   -- for this text's walks alone
set_option linter.unusedVariables false
set_option linter.unusedSimpArgs false

/-! ### conventiclelaw15_LetterSizes: function 6 -/
mutual
def conventiclelaw15_LetterSizes.j0 : Nat → Bool → Int → Int → Int → Int → Int → List (S70) → Int → Int → Int → Int → Int → Int → Int → List (S53) → List (S77) → Nat → Option (Bool)
  | 0, _, _, _, _, _, _, _, _, _, _, _, _, _, _, _, _, _ => none
  | k + 1, x12, x306000, x306001, x306002, x306003, x306004, x306005, x306006, x306007, x306008, x306009, x306010, x306011, x306012, x306013, x306014, x306015 => if x12 = true then ((conventiclelaw15_shown.f).bind fun t308 => (some t308)) else ((letter_Encode.f x306000 x306001 x306002 x306003 x306004 x306005 x306006 x306007 x306008 x306009 x306010 x306011 x306012 x306013 x306014 x306015).bind fun bt309 => (if bt309.2 = 0 then (conventiclelaw15_LetterSizes.l0 k bt309.1 (wrap64 ((wrap64 ((wrap64 ((wrap64 ((wrap64 ((wrap64 ((wrap64 (13 + (wrap64 (10 * (x306005.length : Int))))) + 56)) + 1)) + 1)) + (wrap64 (16 * (x306014.length : Int))))) + 8)) + 4)) 0 x306000 x306001 x306002 x306003 x306004 x306005 x306006 x306007 x306008 x306009 x306010 x306011 x306012 x306013 x306014 x306015) else (some (bt309.1.toList == ([] : List UInt8)))))
def conventiclelaw15_LetterSizes.l0 : Nat → ByteArray → Int → Int → Int → Int → Int → Int → Int → List (S70) → Int → Int → Int → Int → Int → Int → Int → List (S53) → List (S77) → Nat → Option (Bool)
  | 0, _, _, _, _, _, _, _, _, _, _, _, _, _, _, _, _, _, _, _ => none
  | k + 1, x3, x5, x6, x306000, x306001, x306002, x306003, x306004, x306005, x306006, x306007, x306008, x306009, x306010, x306011, x306012, x306013, x306014, x306015 => if x6 < (x306013.length : Int) then (if 0 ≤ x6 then (conventiclelaw15_LetterSizes.l0 k x3 (wrap64 (x5 + (wrap64 (19 + (((rd_T53 x306013 x6).f1.f2).size : Int))))) (wrap64 (x6 + 1)) x306000 x306001 x306002 x306003 x306004 x306005 x306006 x306007 x306008 x306009 x306010 x306011 x306012 x306013 x306014 x306015) else (none)) else (some ((x3.size : Int) == x5))
end
def conventiclelaw15_LetterSizes.f (k : Nat) (a0_0 : Int) (a0_1 : Int) (a0_2 : Int) (a0_3 : Int) (a0_4 : Int) (l0_5 : List (S70)) (a0_6 : Int) (a0_7 : Int) (a0_8 : Int) (a0_9 : Int) (a0_10 : Int) (a0_11 : Int) (a0_12 : Int) (l0_13 : List (S53)) (l0_14 : List (S77)) (a0_15 : Nat) : Option (Bool) := (conventiclelaw15_heavy.f k a0_0 a0_1 a0_2 a0_3 a0_4 l0_5 a0_6 a0_7 a0_8 a0_9 a0_10 a0_11 a0_12 l0_13 l0_14 a0_15).bind fun t306 => (if t306 = true then (conventiclelaw15_LetterSizes.j0 k true a0_0 a0_1 a0_2 a0_3 a0_4 l0_5 a0_6 a0_7 a0_8 a0_9 a0_10 a0_11 a0_12 l0_13 l0_14 a0_15) else ((conventiclelaw15_shown.f).bind fun t307 => (conventiclelaw15_LetterSizes.j0 k (!t307) a0_0 a0_1 a0_2 a0_3 a0_4 l0_5 a0_6 a0_7 a0_8 a0_9 a0_10 a0_11 a0_12 l0_13 l0_14 a0_15)))
set_option maxHeartbeats 8000000 in
set_option maxRecDepth 100000 in
theorem conventiclelaw15_LetterSizes.calls (k : Nat) (a0_0 : Int) (a0_1 : Int) (a0_2 : Int) (a0_3 : Int) (a0_4 : Int) (A0_5 : Option Addr) (c0_5 : Nat) (l0_5 : List (S70)) (a0_6 : Int) (a0_7 : Int) (a0_8 : Int) (a0_9 : Int) (a0_10 : Int) (a0_11 : Int) (a0_12 : Int) (A0_13 : Option Addr) (c0_13 : Nat) (l0_13 : List (S53)) (A0_14 : Option Addr) (c0_14 : Nat) (l0_14 : List (S77)) (a0_15 : Nat) (r : Bool) (w : World) (hr0_5 : Kd.C k70 w A0_5 l0_5.length l0_5) (hc0_5 : l0_5.length ≤ c0_5) (hr0_13 : Kd.C k53 w A0_13 l0_13.length l0_13) (hc0_13 : l0_13.length ≤ c0_13) (hr0_14 : Kd.C k77 w A0_14 l0_14.length l0_14) (hc0_14 : l0_14.length ≤ c0_14) (h : conventiclelaw15_LetterSizes.f k a0_0 a0_1 a0_2 a0_3 a0_4 l0_5 a0_6 a0_7 a0_8 a0_9 a0_10 a0_11 a0_12 l0_13 l0_14 a0_15 = some r) :
    Calls Try.prog 6 #[.agg #[.int .i64 a0_0, .int .i64 a0_1, .int .i64 a0_2, .int .u64 a0_3, .int .i64 a0_4, .slice A0_5 l0_5.length c0_5, .int .u64 a0_6, .int .u64 a0_7, .int .u64 a0_8, .int .u64 a0_9, .int .u64 a0_10, .int .u64 a0_11, .int .u64 a0_12, .slice A0_13 l0_13.length c0_13, .slice A0_14 l0_14.length c0_14, .float .f64 a0_15]] w fun e w' => e = .returned (.bool r) ∧ Below w.heap.size w w' := by
  have hu32 := Try.underlying32
  have HR0_5 := Aside0.mk hr0_5
  have HC0_5 := Aside0.mk hc0_5
  clear hr0_5 hc0_5
  have HR0_13 := Aside0.mk hr0_13
  have HC0_13 := Aside0.mk hc0_13
  clear hr0_13 hc0_13
  have HR0_14 := Aside0.mk hr0_14
  have HC0_14 := Aside0.mk hc0_14
  clear hr0_14 hc0_14
  have HB := Aside0.mk (Below.refl w.heap.size w)
  have H : ((conventiclelaw15_heavy.f k a0_0 a0_1 a0_2 a0_3 a0_4 l0_5 a0_6 a0_7 a0_8 a0_9 a0_10 a0_11 a0_12 l0_13 l0_14 a0_15).bind fun t306 => (if t306 = true then (conventiclelaw15_LetterSizes.j0 k true a0_0 a0_1 a0_2 a0_3 a0_4 l0_5 a0_6 a0_7 a0_8 a0_9 a0_10 a0_11 a0_12 l0_13 l0_14 a0_15) else ((conventiclelaw15_shown.f).bind fun t307 => (conventiclelaw15_LetterSizes.j0 k (!t307) a0_0 a0_1 a0_2 a0_3 a0_4 l0_5 a0_6 a0_7 a0_8 a0_9 a0_10 a0_11 a0_12 l0_13 l0_14 a0_15)))) = some r := h
  clear h
  have HC2 := Aside0.mk H
  clear H
  go_enter Try.func6, Try.ntmps6
  go_upto_region 1 with (first | ((with_reducible refine gate_dst (N := 1) rfl ?_); refine box_event ?hg (N := 1) ?hd (cs := #[.int .i64 a0_0, .int .i64 a0_1, .int .i64 a0_2, .int .u64 a0_3, .int .i64 a0_4, .slice A0_5 l0_5.length c0_5, .int .u64 a0_6, .int .u64 a0_7, .int .u64 a0_8, .int .u64 a0_9, .int .u64 a0_10, .int .u64 a0_11, .int .u64 a0_12, .slice A0_13 l0_13.length c0_13, .slice A0_14 l0_14.length c0_14, .float .f64 a0_15]) (t := 32) ?hr ?_; (case hd => rfl); (case hg => rfl); (case hr => first | (go_simp; done) | (go_simp; rfl)); intro gb305 hg w3 hbox hb; have n0_ := Aside0.mk (below_step (by repeat (first | (with_reducible first | exact HB.out | apply below_alloc | apply pw_below_drewN | apply below_drew1) | exact HB.out)) hb); have n1_ := Aside0.mk (hbox); have n2_ := Aside0.mk ((by rw [hg]; exact (below_size (by repeat (first | (with_reducible first | exact HB.out | apply below_alloc | apply pw_below_drewN | apply below_drew1) | exact HB.out))) : w.heap.size ≤ gb305)); have n3_ := Aside0.mk ((by rw [hg]; exact (below_size (by repeat (first | (with_reducible first | exact HB.out | apply below_alloc | apply pw_below_drewN | apply below_drew1) | exact HB.out))) : w.heap.size ≤ gb305)); clear HB; have HB := n0_; have BK305 := n1_; have GW305 := n2_; have GE305 := n3_; clear n0_ n1_ n2_ n3_; clear hb hbox hg))
  (try simp only [Act.put, List.setIfInBounds_toArray, List.set_cons_zero, List.set_cons_succ])
  go_cut [12] (fun v12 wc => ∃ (kq : Nat) (x12_1 : Bool), v12 = .bool x12_1 ∧ Aside0 (conventiclelaw15_LetterSizes.j0 kq x12_1 a0_0 a0_1 a0_2 a0_3 a0_4 l0_5 a0_6 a0_7 a0_8 a0_9 a0_10 a0_11 a0_12 l0_13 l0_14 a0_15 = some r) ∧ Aside0 (kq ≤ k) ∧ Aside0 (wc.heap[gb305]? = some (.cells #[.int .i64 a0_0, .int .i64 a0_1, .int .i64 a0_2, .int .u64 a0_3, .int .i64 a0_4, (.slice A0_5 l0_5.length c0_5), .int .u64 a0_6, .int .u64 a0_7, .int .u64 a0_8, .int .u64 a0_9, .int .u64 a0_10, .int .u64 a0_11, .int .u64 a0_12, (.slice A0_13 l0_13.length c0_13), (.slice A0_14 l0_14.length c0_14), .float .f64 a0_15] 32 (0, 0))) ∧ Aside0 (Below w.heap.size w wc))
  case first =>
    have H := HC2.out
    clear HC2
    replace H := Option.bind_eq_some_iff.mp H
    obtain ⟨t306, A40, H⟩ := H
    replace H : (if t306 = true then (conventiclelaw15_LetterSizes.j0 k true a0_0 a0_1 a0_2 a0_3 a0_4 l0_5 a0_6 a0_7 a0_8 a0_9 a0_10 a0_11 a0_12 l0_13 l0_14 a0_15) else ((conventiclelaw15_shown.f).bind fun t307 => (conventiclelaw15_LetterSizes.j0 k (!t307) a0_0 a0_1 a0_2 a0_3 a0_4 l0_5 a0_6 a0_7 a0_8 a0_9 a0_10 a0_11 a0_12 l0_13 l0_14 a0_15))) = some r := H
    have A4 := Aside0.mk A40
    clear A40
    by_cases c5 : t306 = true
    · subst c5
      have H1 : (conventiclelaw15_LetterSizes.j0 k true a0_0 a0_1 a0_2 a0_3 a0_4 l0_5 a0_6 a0_7 a0_8 a0_9 a0_10 a0_11 a0_12 l0_13 l0_14 a0_15) = some r := by rw [if_pos rfl] at H; exact H
      clear H
      have H := H1
      clear H1
      have H' := Aside0.mk H
      clear H
      have hcz6_0 : w3.cell? ⟨gb305, 0, none⟩ = some (.int .i64 a0_0) := (blk_cell BK305.out 0).trans rfl
      have hcz6_1 : w3.cell? ⟨gb305, 1, none⟩ = some (.int .i64 a0_1) := (blk_cell BK305.out 1).trans rfl
      have hcz6_2 : w3.cell? ⟨gb305, 2, none⟩ = some (.int .i64 a0_2) := (blk_cell BK305.out 2).trans rfl
      have hcz6_3 : w3.cell? ⟨gb305, 3, none⟩ = some (.int .u64 a0_3) := (blk_cell BK305.out 3).trans rfl
      have hcz6_4 : w3.cell? ⟨gb305, 4, none⟩ = some (.int .i64 a0_4) := (blk_cell BK305.out 4).trans rfl
      have hcz6_5 : w3.cell? ⟨gb305, 5, none⟩ = some (.slice A0_5 l0_5.length c0_5) := (blk_cell BK305.out 5).trans rfl
      have hcz6_6 : w3.cell? ⟨gb305, 6, none⟩ = some (.int .u64 a0_6) := (blk_cell BK305.out 6).trans rfl
      have hcz6_7 : w3.cell? ⟨gb305, 7, none⟩ = some (.int .u64 a0_7) := (blk_cell BK305.out 7).trans rfl
      have hcz6_8 : w3.cell? ⟨gb305, 8, none⟩ = some (.int .u64 a0_8) := (blk_cell BK305.out 8).trans rfl
      have hcz6_9 : w3.cell? ⟨gb305, 9, none⟩ = some (.int .u64 a0_9) := (blk_cell BK305.out 9).trans rfl
      have hcz6_10 : w3.cell? ⟨gb305, 10, none⟩ = some (.int .u64 a0_10) := (blk_cell BK305.out 10).trans rfl
      have hcz6_11 : w3.cell? ⟨gb305, 11, none⟩ = some (.int .u64 a0_11) := (blk_cell BK305.out 11).trans rfl
      have hcz6_12 : w3.cell? ⟨gb305, 12, none⟩ = some (.int .u64 a0_12) := (blk_cell BK305.out 12).trans rfl
      have hcz6_13 : w3.cell? ⟨gb305, 13, none⟩ = some (.slice A0_13 l0_13.length c0_13) := (blk_cell BK305.out 13).trans rfl
      have hcz6_14 : w3.cell? ⟨gb305, 14, none⟩ = some (.slice A0_14 l0_14.length c0_14) := (blk_cell BK305.out 14).trans rfl
      have hcz6_15 : w3.cell? ⟨gb305, 15, none⟩ = some (.float .f64 a0_15) := (blk_cell BK305.out 15).trans rfl
      have hfz6_0 := blk_frozen BK305.out 0
      have hfz6_1 := blk_frozen BK305.out 1
      have hfz6_2 := blk_frozen BK305.out 2
      have hfz6_3 := blk_frozen BK305.out 3
      have hfz6_4 := blk_frozen BK305.out 4
      have hfz6_5 := blk_frozen BK305.out 5
      have hfz6_6 := blk_frozen BK305.out 6
      have hfz6_7 := blk_frozen BK305.out 7
      have hfz6_8 := blk_frozen BK305.out 8
      have hfz6_9 := blk_frozen BK305.out 9
      have hfz6_10 := blk_frozen BK305.out 10
      have hfz6_11 := blk_frozen BK305.out 11
      have hfz6_12 := blk_frozen BK305.out 12
      have hfz6_13 := blk_frozen BK305.out 13
      have hfz6_14 := blk_frozen BK305.out 14
      have hfz6_15 := blk_frozen BK305.out 15
      go_wp2_with (first | ((with_reducible refine gate_callee (f := 15) rfl ?_); refine goesL_ (some 8) rfl rfl Try.func15 (by kernel_rfl) rfl #[.agg #[.int .i64 a0_0, .int .i64 a0_1, .int .i64 a0_2, .int .u64 a0_3, .int .i64 a0_4, .slice A0_5 l0_5.length c0_5, .int .u64 a0_6, .int .u64 a0_7, .int .u64 a0_8, .int .u64 a0_9, .int .u64 a0_10, .int .u64 a0_11, .int .u64 a0_12, .slice A0_13 l0_13.length c0_13, .slice A0_14 l0_14.length c0_14, .float .f64 a0_15]] rfl (by (try simp only [List.map_toArray, List.map_cons, List.map_nil]); first | done | rfl | (simp only [List.length_drop, List.length_take]; rfl)) ?_; (with_reducible refine (conventiclelaw15_heavy.calls k a0_0 a0_1 a0_2 a0_3 a0_4 _ _ l0_5 a0_6 a0_7 a0_8 a0_9 a0_10 a0_11 a0_12 _ _ l0_13 _ _ l0_14 a0_15 true _ ?side1 ?side2 ?side3 ?side4 ?side5 ?side6 A4.out).mono ?_); (case side1 => repeat (first | exact (Kd.C_below HR0_5.out HB.out) | (with_reducible refine Kd.C_alloc ?_ _) | (with_reducible refine Kd.C_drewN ?_ _) | (with_reducible refine Kd.C_drew ?_))); (case side2 => exact HC0_5.out); (case side3 => repeat (first | exact (Kd.C_below HR0_13.out HB.out) | (with_reducible refine Kd.C_alloc ?_ _) | (with_reducible refine Kd.C_drewN ?_ _) | (with_reducible refine Kd.C_drew ?_))); (case side4 => exact HC0_13.out); (case side5 => repeat (first | exact (Kd.C_below HR0_14.out HB.out) | (with_reducible refine Kd.C_alloc ?_ _) | (with_reducible refine Kd.C_drewN ?_ _) | (with_reducible refine Kd.C_drew ?_))); (case side6 => exact HC0_14.out); rintro e w7 ⟨rfl, hb⟩; refine ⟨_, rfl, ?_⟩; have n0_ := Aside0.mk (blk_below (g := gb305) (o := .cells #[.int .i64 a0_0, .int .i64 a0_1, .int .i64 a0_2, .int .u64 a0_3, .int .i64 a0_4, .slice A0_5 l0_5.length c0_5, .int .u64 a0_6, .int .u64 a0_7, .int .u64 a0_8, .int .u64 a0_9, .int .u64 a0_10, .int .u64 a0_11, .int .u64 a0_12, .slice A0_13 l0_13.length c0_13, .slice A0_14 l0_14.length c0_14, .float .f64 a0_15] 32 (0, 0)) (by (with_reducible repeat (first | refine blk_drewN ?_ _ | refine blk_drew ?_ | refine blk_alloc ?_ _)); exact BK305.out) hb); have n1_ := Aside0.mk (below_step (by repeat (first | (with_reducible first | exact HB.out | apply below_alloc | apply pw_below_drewN | apply below_drew1 | refine below_set ?_ GE305.out) | exact HB.out)) hb); clear BK305; clear HB; have BK305 := n0_; have HB := n1_; clear n0_ n1_; (try clear hb); (try clear hb2); (try clear hk); (try clear hi)))
      go_meet
      case rel => exact ⟨_, (true), (by first | rfl | (simp; done) | (simp [*]; done)), H', ⟨by first | omega | exact Nat.le_refl _⟩, ⟨by (with_reducible repeat (first | refine blk_drewN ?_ _ | refine blk_drew ?_ | refine blk_alloc ?_ _)); exact BK305.out⟩, ⟨by repeat (first | (with_reducible first | exact HB.out | apply below_alloc | apply pw_below_drewN | apply below_drew1 | refine below_set ?_ GE305.out) | exact HB.out)⟩⟩
    · replace c5 := Bool.eq_false_iff.mpr c5
      subst c5
      have H1 : ((conventiclelaw15_shown.f).bind fun t307 => (conventiclelaw15_LetterSizes.j0 k (!t307) a0_0 a0_1 a0_2 a0_3 a0_4 l0_5 a0_6 a0_7 a0_8 a0_9 a0_10 a0_11 a0_12 l0_13 l0_14 a0_15)) = some r := by rw [if_neg (show ¬ (false = true) by decide)] at H; exact H
      clear H
      have H := H1
      clear H1
      replace H := Option.bind_eq_some_iff.mp H
      obtain ⟨t307, A80, H⟩ := H
      replace H : (conventiclelaw15_LetterSizes.j0 k (!t307) a0_0 a0_1 a0_2 a0_3 a0_4 l0_5 a0_6 a0_7 a0_8 a0_9 a0_10 a0_11 a0_12 l0_13 l0_14 a0_15) = some r := H
      have A8 := Aside0.mk A80
      clear A80
      have H' := Aside0.mk H
      clear H
      have hcz9_0 : w3.cell? ⟨gb305, 0, none⟩ = some (.int .i64 a0_0) := (blk_cell BK305.out 0).trans rfl
      have hcz9_1 : w3.cell? ⟨gb305, 1, none⟩ = some (.int .i64 a0_1) := (blk_cell BK305.out 1).trans rfl
      have hcz9_2 : w3.cell? ⟨gb305, 2, none⟩ = some (.int .i64 a0_2) := (blk_cell BK305.out 2).trans rfl
      have hcz9_3 : w3.cell? ⟨gb305, 3, none⟩ = some (.int .u64 a0_3) := (blk_cell BK305.out 3).trans rfl
      have hcz9_4 : w3.cell? ⟨gb305, 4, none⟩ = some (.int .i64 a0_4) := (blk_cell BK305.out 4).trans rfl
      have hcz9_5 : w3.cell? ⟨gb305, 5, none⟩ = some (.slice A0_5 l0_5.length c0_5) := (blk_cell BK305.out 5).trans rfl
      have hcz9_6 : w3.cell? ⟨gb305, 6, none⟩ = some (.int .u64 a0_6) := (blk_cell BK305.out 6).trans rfl
      have hcz9_7 : w3.cell? ⟨gb305, 7, none⟩ = some (.int .u64 a0_7) := (blk_cell BK305.out 7).trans rfl
      have hcz9_8 : w3.cell? ⟨gb305, 8, none⟩ = some (.int .u64 a0_8) := (blk_cell BK305.out 8).trans rfl
      have hcz9_9 : w3.cell? ⟨gb305, 9, none⟩ = some (.int .u64 a0_9) := (blk_cell BK305.out 9).trans rfl
      have hcz9_10 : w3.cell? ⟨gb305, 10, none⟩ = some (.int .u64 a0_10) := (blk_cell BK305.out 10).trans rfl
      have hcz9_11 : w3.cell? ⟨gb305, 11, none⟩ = some (.int .u64 a0_11) := (blk_cell BK305.out 11).trans rfl
      have hcz9_12 : w3.cell? ⟨gb305, 12, none⟩ = some (.int .u64 a0_12) := (blk_cell BK305.out 12).trans rfl
      have hcz9_13 : w3.cell? ⟨gb305, 13, none⟩ = some (.slice A0_13 l0_13.length c0_13) := (blk_cell BK305.out 13).trans rfl
      have hcz9_14 : w3.cell? ⟨gb305, 14, none⟩ = some (.slice A0_14 l0_14.length c0_14) := (blk_cell BK305.out 14).trans rfl
      have hcz9_15 : w3.cell? ⟨gb305, 15, none⟩ = some (.float .f64 a0_15) := (blk_cell BK305.out 15).trans rfl
      have hfz9_0 := blk_frozen BK305.out 0
      have hfz9_1 := blk_frozen BK305.out 1
      have hfz9_2 := blk_frozen BK305.out 2
      have hfz9_3 := blk_frozen BK305.out 3
      have hfz9_4 := blk_frozen BK305.out 4
      have hfz9_5 := blk_frozen BK305.out 5
      have hfz9_6 := blk_frozen BK305.out 6
      have hfz9_7 := blk_frozen BK305.out 7
      have hfz9_8 := blk_frozen BK305.out 8
      have hfz9_9 := blk_frozen BK305.out 9
      have hfz9_10 := blk_frozen BK305.out 10
      have hfz9_11 := blk_frozen BK305.out 11
      have hfz9_12 := blk_frozen BK305.out 12
      have hfz9_13 := blk_frozen BK305.out 13
      have hfz9_14 := blk_frozen BK305.out 14
      have hfz9_15 := blk_frozen BK305.out 15
      go_wp2_with (first | ((with_reducible refine gate_callee (f := 15) rfl ?_); refine goesL_ (some 8) rfl rfl Try.func15 (by kernel_rfl) rfl #[.agg #[.int .i64 a0_0, .int .i64 a0_1, .int .i64 a0_2, .int .u64 a0_3, .int .i64 a0_4, .slice A0_5 l0_5.length c0_5, .int .u64 a0_6, .int .u64 a0_7, .int .u64 a0_8, .int .u64 a0_9, .int .u64 a0_10, .int .u64 a0_11, .int .u64 a0_12, .slice A0_13 l0_13.length c0_13, .slice A0_14 l0_14.length c0_14, .float .f64 a0_15]] rfl (by (try simp only [List.map_toArray, List.map_cons, List.map_nil]); first | done | rfl | (simp only [List.length_drop, List.length_take]; rfl)) ?_; (with_reducible refine (conventiclelaw15_heavy.calls k a0_0 a0_1 a0_2 a0_3 a0_4 _ _ l0_5 a0_6 a0_7 a0_8 a0_9 a0_10 a0_11 a0_12 _ _ l0_13 _ _ l0_14 a0_15 false _ ?side1 ?side2 ?side3 ?side4 ?side5 ?side6 A4.out).mono ?_); (case side1 => repeat (first | exact (Kd.C_below HR0_5.out HB.out) | (with_reducible refine Kd.C_alloc ?_ _) | (with_reducible refine Kd.C_drewN ?_ _) | (with_reducible refine Kd.C_drew ?_))); (case side2 => exact HC0_5.out); (case side3 => repeat (first | exact (Kd.C_below HR0_13.out HB.out) | (with_reducible refine Kd.C_alloc ?_ _) | (with_reducible refine Kd.C_drewN ?_ _) | (with_reducible refine Kd.C_drew ?_))); (case side4 => exact HC0_13.out); (case side5 => repeat (first | exact (Kd.C_below HR0_14.out HB.out) | (with_reducible refine Kd.C_alloc ?_ _) | (with_reducible refine Kd.C_drewN ?_ _) | (with_reducible refine Kd.C_drew ?_))); (case side6 => exact HC0_14.out); rintro e w10 ⟨rfl, hb⟩; refine ⟨_, rfl, ?_⟩; have n0_ := Aside0.mk (blk_below (g := gb305) (o := .cells #[.int .i64 a0_0, .int .i64 a0_1, .int .i64 a0_2, .int .u64 a0_3, .int .i64 a0_4, .slice A0_5 l0_5.length c0_5, .int .u64 a0_6, .int .u64 a0_7, .int .u64 a0_8, .int .u64 a0_9, .int .u64 a0_10, .int .u64 a0_11, .int .u64 a0_12, .slice A0_13 l0_13.length c0_13, .slice A0_14 l0_14.length c0_14, .float .f64 a0_15] 32 (0, 0)) (by (with_reducible repeat (first | refine blk_drewN ?_ _ | refine blk_drew ?_ | refine blk_alloc ?_ _)); exact BK305.out) hb); have n1_ := Aside0.mk (below_step (by repeat (first | (with_reducible first | exact HB.out | apply below_alloc | apply pw_below_drewN | apply below_drew1 | refine below_set ?_ GE305.out) | exact HB.out)) hb); clear BK305; clear HB; have BK305 := n0_; have HB := n1_; clear n0_ n1_; (try clear hb); (try clear hb2); (try clear hk); (try clear hi)) | (go_at_call 8; (with_reducible refine (conventiclelaw15_shown.calls  t307 _ A8.out).mono ?_); rintro e w11 ⟨rfl, hb⟩; have n0_ := Aside0.mk (blk_below (g := gb305) (o := .cells #[.int .i64 a0_0, .int .i64 a0_1, .int .i64 a0_2, .int .u64 a0_3, .int .i64 a0_4, .slice A0_5 l0_5.length c0_5, .int .u64 a0_6, .int .u64 a0_7, .int .u64 a0_8, .int .u64 a0_9, .int .u64 a0_10, .int .u64 a0_11, .int .u64 a0_12, .slice A0_13 l0_13.length c0_13, .slice A0_14 l0_14.length c0_14, .float .f64 a0_15] 32 (0, 0)) (by (with_reducible repeat (first | refine blk_drewN ?_ _ | refine blk_drew ?_ | refine blk_alloc ?_ _)); exact BK305.out) hb); have n1_ := Aside0.mk (below_step (by repeat (first | (with_reducible first | exact HB.out | apply below_alloc | apply pw_below_drewN | apply below_drew1 | refine below_set ?_ GE305.out) | exact HB.out)) hb); clear BK305; clear HB; have BK305 := n0_; have HB := n1_; clear n0_ n1_; (try clear hb); (try clear hb2); (try clear hk); (try clear hi)))
      go_meet
      case rel => exact ⟨_, (!t307), (by first | rfl | (simp; done) | (simp [*]; done)), H', ⟨by first | omega | exact Nat.le_refl _⟩, ⟨by (with_reducible repeat (first | refine blk_drewN ?_ _ | refine blk_drew ?_ | refine blk_alloc ?_ _)); exact BK305.out⟩, ⟨by repeat (first | (with_reducible first | exact HB.out | apply below_alloc | apply pw_below_drewN | apply below_drew1 | refine below_set ?_ GE305.out) | exact HB.out)⟩⟩
  case rest =>
    clear HC2
    try clear c1
    try clear p2
    try clear c5
    try clear c6
    try clear hcz6_0
    try clear hcz6_1
    try clear hcz6_10
    try clear hcz6_11
    try clear hcz6_12
    try clear hcz6_13
    try clear hcz6_14
    try clear hcz6_15
    try clear hcz6_2
    try clear hcz6_3
    try clear hcz6_4
    try clear hcz6_5
    try clear hcz6_6
    try clear hcz6_7
    try clear hcz6_8
    try clear hcz6_9
    try clear hcz9_0
    try clear hcz9_1
    try clear hcz9_10
    try clear hcz9_11
    try clear hcz9_12
    try clear hcz9_13
    try clear hcz9_14
    try clear hcz9_15
    try clear hcz9_2
    try clear hcz9_3
    try clear hcz9_4
    try clear hcz9_5
    try clear hcz9_6
    try clear hcz9_7
    try clear hcz9_8
    try clear hcz9_9
    try clear hfz6_0
    try clear hfz6_1
    try clear hfz6_10
    try clear hfz6_11
    try clear hfz6_12
    try clear hfz6_13
    try clear hfz6_14
    try clear hfz6_15
    try clear hfz6_2
    try clear hfz6_3
    try clear hfz6_4
    try clear hfz6_5
    try clear hfz6_6
    try clear hfz6_7
    try clear hfz6_8
    try clear hfz6_9
    try clear hfz9_0
    try clear hfz9_1
    try clear hfz9_10
    try clear hfz9_11
    try clear hfz9_12
    try clear hfz9_13
    try clear hfz9_14
    try clear hfz9_15
    try clear hfz9_2
    try clear hfz9_3
    try clear hfz9_4
    try clear hfz9_5
    try clear hfz9_6
    try clear hfz9_7
    try clear hfz9_8
    try clear hfz9_9
    obtain ⟨kq, x12_1, rfl, HA, HJ1, BK305, HB⟩ := hcut
    cases kq with
    | zero => exact absurd HA.out (by simp [conventiclelaw15_LetterSizes.j0])
    | succ kj1 =>
      have H := HA.out
      clear HA
      simp only [conventiclelaw15_LetterSizes.j0] at H
      by_cases c12 : x12_1 = true
      · subst c12
        have H1 : ((conventiclelaw15_shown.f).bind fun t308 => (some t308)) = some r := by rw [if_pos rfl] at H; exact H
        clear H
        have H := H1
        clear H1
        replace H := Option.bind_eq_some_iff.mp H
        obtain ⟨t308, A130, H⟩ := H
        replace H : (some t308) = some r := H
        have A13 := Aside0.mk A130
        clear A130
        obtain rfl := Option.some.inj H
        go_wp2_with (first | ((with_reducible refine gate_callee (f := 8) rfl ?_); refine goesL_ (some 13) rfl rfl Try.func8 (by kernel_rfl) rfl #[] rfl (by (try simp only [List.map_toArray, List.map_cons, List.map_nil]); first | done | rfl | (simp only [List.length_drop, List.length_take]; rfl)) ?_; (with_reducible refine (conventiclelaw15_shown.calls  t308 _ A13.out).mono ?_); rintro e w14 ⟨rfl, hb⟩; refine ⟨_, rfl, ?_⟩; have n0_ := Aside0.mk (blk_below (g := gb305) (o := .cells #[.int .i64 a0_0, .int .i64 a0_1, .int .i64 a0_2, .int .u64 a0_3, .int .i64 a0_4, .slice A0_5 l0_5.length c0_5, .int .u64 a0_6, .int .u64 a0_7, .int .u64 a0_8, .int .u64 a0_9, .int .u64 a0_10, .int .u64 a0_11, .int .u64 a0_12, .slice A0_13 l0_13.length c0_13, .slice A0_14 l0_14.length c0_14, .float .f64 a0_15] 32 (0, 0)) (by (with_reducible repeat (first | refine blk_drewN ?_ _ | refine blk_drew ?_ | refine blk_alloc ?_ _)); exact BK305.out) hb); have n1_ := Aside0.mk (below_step (by repeat (first | (with_reducible first | exact HB.out | apply below_alloc | apply pw_below_drewN | apply below_drew1 | refine below_set ?_ GE305.out) | exact HB.out)) hb); clear BK305; clear HB; have BK305 := n0_; have HB := n1_; clear n0_ n1_; (try clear hb); (try clear hb2); (try clear hk); (try clear hi)))
        go_ret
        exact ⟨by first | rfl | (simp [errW_none, errW_some] <;> rfl) | (simp [*, errW_none, errW_some] <;> rfl), by repeat (first | (with_reducible first | exact HB.out | apply below_alloc | apply pw_below_drewN | apply below_drew1 | refine below_set ?_ GE305.out) | exact HB.out)⟩
      · replace c12 := Bool.eq_false_iff.mpr c12
        subst c12
        have H1 : ((letter_Encode.f a0_0 a0_1 a0_2 a0_3 a0_4 l0_5 a0_6 a0_7 a0_8 a0_9 a0_10 a0_11 a0_12 l0_13 l0_14 a0_15).bind fun bt309 => (if bt309.2 = 0 then (conventiclelaw15_LetterSizes.l0 kj1 bt309.1 (wrap64 ((wrap64 ((wrap64 ((wrap64 ((wrap64 ((wrap64 ((wrap64 (13 + (wrap64 (10 * (l0_5.length : Int))))) + 56)) + 1)) + 1)) + (wrap64 (16 * (l0_14.length : Int))))) + 8)) + 4)) 0 a0_0 a0_1 a0_2 a0_3 a0_4 l0_5 a0_6 a0_7 a0_8 a0_9 a0_10 a0_11 a0_12 l0_13 l0_14 a0_15) else (some (bt309.1.toList == ([] : List UInt8))))) = some r := by rw [if_neg (show ¬ (false = true) by decide)] at H; exact H
        clear H
        have H := H1
        clear H1
        replace H := Option.bind_eq_some_iff.mp H
        obtain ⟨⟨t309, t310⟩, A150, H⟩ := H
        replace H : (if t310 = 0 then (conventiclelaw15_LetterSizes.l0 kj1 t309 (wrap64 ((wrap64 ((wrap64 ((wrap64 ((wrap64 ((wrap64 ((wrap64 (13 + (wrap64 (10 * (l0_5.length : Int))))) + 56)) + 1)) + 1)) + (wrap64 (16 * (l0_14.length : Int))))) + 8)) + 4)) 0 a0_0 a0_1 a0_2 a0_3 a0_4 l0_5 a0_6 a0_7 a0_8 a0_9 a0_10 a0_11 a0_12 l0_13 l0_14 a0_15) else (some (t309.toList == ([] : List UInt8)))) = some r := H
        have A15 := Aside0.mk A150
        clear A150
        by_cases c16 : t310 = 0
        · rw [if_pos c16] at H
          have c16b0 : (t310 == 0) = true := beq_iff_eq.mpr c16
          have c16b1 : (t310 != 0) = false := bne_eq_false_iff_eq.mpr c16
          clear c16
          have H' := Aside0.mk H
          clear H
          have hcz17_0 : wc.cell? ⟨gb305, 0, none⟩ = some (.int .i64 a0_0) := (blk_cell BK305.out 0).trans rfl
          have hcz17_1 : wc.cell? ⟨gb305, 1, none⟩ = some (.int .i64 a0_1) := (blk_cell BK305.out 1).trans rfl
          have hcz17_2 : wc.cell? ⟨gb305, 2, none⟩ = some (.int .i64 a0_2) := (blk_cell BK305.out 2).trans rfl
          have hcz17_3 : wc.cell? ⟨gb305, 3, none⟩ = some (.int .u64 a0_3) := (blk_cell BK305.out 3).trans rfl
          have hcz17_4 : wc.cell? ⟨gb305, 4, none⟩ = some (.int .i64 a0_4) := (blk_cell BK305.out 4).trans rfl
          have hcz17_5 : wc.cell? ⟨gb305, 5, none⟩ = some (.slice A0_5 l0_5.length c0_5) := (blk_cell BK305.out 5).trans rfl
          have hcz17_6 : wc.cell? ⟨gb305, 6, none⟩ = some (.int .u64 a0_6) := (blk_cell BK305.out 6).trans rfl
          have hcz17_7 : wc.cell? ⟨gb305, 7, none⟩ = some (.int .u64 a0_7) := (blk_cell BK305.out 7).trans rfl
          have hcz17_8 : wc.cell? ⟨gb305, 8, none⟩ = some (.int .u64 a0_8) := (blk_cell BK305.out 8).trans rfl
          have hcz17_9 : wc.cell? ⟨gb305, 9, none⟩ = some (.int .u64 a0_9) := (blk_cell BK305.out 9).trans rfl
          have hcz17_10 : wc.cell? ⟨gb305, 10, none⟩ = some (.int .u64 a0_10) := (blk_cell BK305.out 10).trans rfl
          have hcz17_11 : wc.cell? ⟨gb305, 11, none⟩ = some (.int .u64 a0_11) := (blk_cell BK305.out 11).trans rfl
          have hcz17_12 : wc.cell? ⟨gb305, 12, none⟩ = some (.int .u64 a0_12) := (blk_cell BK305.out 12).trans rfl
          have hcz17_13 : wc.cell? ⟨gb305, 13, none⟩ = some (.slice A0_13 l0_13.length c0_13) := (blk_cell BK305.out 13).trans rfl
          have hcz17_14 : wc.cell? ⟨gb305, 14, none⟩ = some (.slice A0_14 l0_14.length c0_14) := (blk_cell BK305.out 14).trans rfl
          have hcz17_15 : wc.cell? ⟨gb305, 15, none⟩ = some (.float .f64 a0_15) := (blk_cell BK305.out 15).trans rfl
          have hfz17_0 := blk_frozen BK305.out 0
          have hfz17_1 := blk_frozen BK305.out 1
          have hfz17_2 := blk_frozen BK305.out 2
          have hfz17_3 := blk_frozen BK305.out 3
          have hfz17_4 := blk_frozen BK305.out 4
          have hfz17_5 := blk_frozen BK305.out 5
          have hfz17_6 := blk_frozen BK305.out 6
          have hfz17_7 := blk_frozen BK305.out 7
          have hfz17_8 := blk_frozen BK305.out 8
          have hfz17_9 := blk_frozen BK305.out 9
          have hfz17_10 := blk_frozen BK305.out 10
          have hfz17_11 := blk_frozen BK305.out 11
          have hfz17_12 := blk_frozen BK305.out 12
          have hfz17_13 := blk_frozen BK305.out 13
          have hfz17_14 := blk_frozen BK305.out 14
          have hfz17_15 := blk_frozen BK305.out 15
          go_wp2_with (first | ((with_reducible refine gate_callee (f := 14) rfl ?_); refine goesL_ (some 16) rfl rfl Try.func14 (by kernel_rfl) rfl #[.agg #[.int .i64 a0_0, .int .i64 a0_1, .int .i64 a0_2, .int .u64 a0_3, .int .i64 a0_4, .slice A0_5 l0_5.length c0_5, .int .u64 a0_6, .int .u64 a0_7, .int .u64 a0_8, .int .u64 a0_9, .int .u64 a0_10, .int .u64 a0_11, .int .u64 a0_12, .slice A0_13 l0_13.length c0_13, .slice A0_14 l0_14.length c0_14, .float .f64 a0_15]] rfl (by (try simp only [List.map_toArray, List.map_cons, List.map_nil]); first | done | rfl | (simp only [List.length_drop, List.length_take]; rfl)) ?_; (with_reducible refine (letter_Encode.calls a0_0 a0_1 a0_2 a0_3 a0_4 _ _ l0_5 a0_6 a0_7 a0_8 a0_9 a0_10 a0_11 a0_12 _ _ l0_13 _ _ l0_14 a0_15 t309 t310 _ ?side1 ?side2 ?side3 ?side4 ?side5 ?side6 A15.out).mono ?_); (case side1 => repeat (first | exact (Kd.C_below HR0_5.out HB.out) | (with_reducible refine Kd.C_alloc ?_ _) | (with_reducible refine Kd.C_drewN ?_ _) | (with_reducible refine Kd.C_drew ?_))); (case side2 => exact HC0_5.out); (case side3 => repeat (first | exact (Kd.C_below HR0_13.out HB.out) | (with_reducible refine Kd.C_alloc ?_ _) | (with_reducible refine Kd.C_drewN ?_ _) | (with_reducible refine Kd.C_drew ?_))); (case side4 => exact HC0_13.out); (case side5 => repeat (first | exact (Kd.C_below HR0_14.out HB.out) | (with_reducible refine Kd.C_alloc ?_ _) | (with_reducible refine Kd.C_drewN ?_ _) | (with_reducible refine Kd.C_drew ?_))); (case side6 => exact HC0_14.out); rintro e w18 ⟨rfl, hb⟩; refine ⟨_, rfl, ?_⟩; have n0_ := Aside0.mk (blk_below (g := gb305) (o := .cells #[.int .i64 a0_0, .int .i64 a0_1, .int .i64 a0_2, .int .u64 a0_3, .int .i64 a0_4, .slice A0_5 l0_5.length c0_5, .int .u64 a0_6, .int .u64 a0_7, .int .u64 a0_8, .int .u64 a0_9, .int .u64 a0_10, .int .u64 a0_11, .int .u64 a0_12, .slice A0_13 l0_13.length c0_13, .slice A0_14 l0_14.length c0_14, .float .f64 a0_15] 32 (0, 0)) (by (with_reducible repeat (first | refine blk_drewN ?_ _ | refine blk_drew ?_ | refine blk_alloc ?_ _)); exact BK305.out) hb); have n1_ := Aside0.mk (below_step (by repeat (first | (with_reducible first | exact HB.out | apply below_alloc | apply pw_below_drewN | apply below_drew1 | refine below_set ?_ GE305.out) | exact HB.out)) hb); clear BK305; clear HB; have BK305 := n0_; have HB := n1_; clear n0_ n1_; (try clear hb); (try clear hb2); (try clear hk); (try clear hi); have hcz19_0 : w18.cell? ⟨gb305, 0, none⟩ = some (.int .i64 a0_0) := (blk_cell BK305.out 0).trans rfl; have hcz19_1 : w18.cell? ⟨gb305, 1, none⟩ = some (.int .i64 a0_1) := (blk_cell BK305.out 1).trans rfl; have hcz19_2 : w18.cell? ⟨gb305, 2, none⟩ = some (.int .i64 a0_2) := (blk_cell BK305.out 2).trans rfl; have hcz19_3 : w18.cell? ⟨gb305, 3, none⟩ = some (.int .u64 a0_3) := (blk_cell BK305.out 3).trans rfl; have hcz19_4 : w18.cell? ⟨gb305, 4, none⟩ = some (.int .i64 a0_4) := (blk_cell BK305.out 4).trans rfl; have hcz19_5 : w18.cell? ⟨gb305, 5, none⟩ = some (.slice A0_5 l0_5.length c0_5) := (blk_cell BK305.out 5).trans rfl; have hcz19_6 : w18.cell? ⟨gb305, 6, none⟩ = some (.int .u64 a0_6) := (blk_cell BK305.out 6).trans rfl; have hcz19_7 : w18.cell? ⟨gb305, 7, none⟩ = some (.int .u64 a0_7) := (blk_cell BK305.out 7).trans rfl; have hcz19_8 : w18.cell? ⟨gb305, 8, none⟩ = some (.int .u64 a0_8) := (blk_cell BK305.out 8).trans rfl; have hcz19_9 : w18.cell? ⟨gb305, 9, none⟩ = some (.int .u64 a0_9) := (blk_cell BK305.out 9).trans rfl; have hcz19_10 : w18.cell? ⟨gb305, 10, none⟩ = some (.int .u64 a0_10) := (blk_cell BK305.out 10).trans rfl; have hcz19_11 : w18.cell? ⟨gb305, 11, none⟩ = some (.int .u64 a0_11) := (blk_cell BK305.out 11).trans rfl; have hcz19_12 : w18.cell? ⟨gb305, 12, none⟩ = some (.int .u64 a0_12) := (blk_cell BK305.out 12).trans rfl; have hcz19_13 : w18.cell? ⟨gb305, 13, none⟩ = some (.slice A0_13 l0_13.length c0_13) := (blk_cell BK305.out 13).trans rfl; have hcz19_14 : w18.cell? ⟨gb305, 14, none⟩ = some (.slice A0_14 l0_14.length c0_14) := (blk_cell BK305.out 14).trans rfl; have hcz19_15 : w18.cell? ⟨gb305, 15, none⟩ = some (.float .f64 a0_15) := (blk_cell BK305.out 15).trans rfl; have hfz19_0 := blk_frozen BK305.out 0; have hfz19_1 := blk_frozen BK305.out 1; have hfz19_2 := blk_frozen BK305.out 2; have hfz19_3 := blk_frozen BK305.out 3; have hfz19_4 := blk_frozen BK305.out 4; have hfz19_5 := blk_frozen BK305.out 5; have hfz19_6 := blk_frozen BK305.out 6; have hfz19_7 := blk_frozen BK305.out 7; have hfz19_8 := blk_frozen BK305.out 8; have hfz19_9 := blk_frozen BK305.out 9; have hfz19_10 := blk_frozen BK305.out 10; have hfz19_11 := blk_frozen BK305.out 11; have hfz19_12 := blk_frozen BK305.out 12; have hfz19_13 := blk_frozen BK305.out 13; have hfz19_14 := blk_frozen BK305.out 14; have hfz19_15 := blk_frozen BK305.out 15))
          go_loopg [5, 6] kj1 (fun kq v5 v6 w' => ∃ (x5_2 : Int) (x6_2 : Int), v5 = .int .i64 x5_2 ∧ v6 = .int .i64 x6_2 ∧ Aside0 (conventiclelaw15_LetterSizes.l0 kq t309 x5_2 x6_2 a0_0 a0_1 a0_2 a0_3 a0_4 l0_5 a0_6 a0_7 a0_8 a0_9 a0_10 a0_11 a0_12 l0_13 l0_14 a0_15 = some r) ∧ Aside0 (kq ≤ kj1) ∧ Aside0 (w'.heap[gb305]? = some (.cells #[.int .i64 a0_0, .int .i64 a0_1, .int .i64 a0_2, .int .u64 a0_3, .int .i64 a0_4, (.slice A0_5 l0_5.length c0_5), .int .u64 a0_6, .int .u64 a0_7, .int .u64 a0_8, .int .u64 a0_9, .int .u64 a0_10, .int .u64 a0_11, .int .u64 a0_12, (.slice A0_13 l0_13.length c0_13), (.slice A0_14 l0_14.length c0_14), .float .f64 a0_15] 32 (0, 0))) ∧ Aside0 (Below w.heap.size w w'))
          case atStart => exact ⟨(wrap64 ((wrap64 ((wrap64 ((wrap64 ((wrap64 ((wrap64 ((wrap64 (13 + (wrap64 (10 * (l0_5.length : Int))))) + 56)) + 1)) + 1)) + (wrap64 (16 * (l0_14.length : Int))))) + 8)) + 4)), (0), (by first | rfl | (simp; done) | (simp [*]; done)), (by first | rfl | (simp; done) | (simp [*]; done)), H', ⟨Nat.le_refl _⟩, ⟨by (with_reducible repeat (first | refine blk_drewN ?_ _ | refine blk_drew ?_ | refine blk_alloc ?_ _)); exact BK305.out⟩, ⟨by repeat (first | (with_reducible first | exact HB.out | apply below_alloc | apply pw_below_drewN | apply below_drew1 | refine below_set ?_ GE305.out) | exact HB.out)⟩⟩
          case round =>
            clear H'
            try clear c1
            try clear p2
            try clear c5
            try clear c6
            try clear p6
            try clear c8
            try clear c12
            try clear c14
            try clear c15
            try clear c16
            try clear c16b0
            try clear c16b1
            try clear hcz17_0
            try clear hcz17_1
            try clear hcz17_10
            try clear hcz17_11
            try clear hcz17_12
            try clear hcz17_13
            try clear hcz17_14
            try clear hcz17_15
            try clear hcz17_2
            try clear hcz17_3
            try clear hcz17_4
            try clear hcz17_5
            try clear hcz17_6
            try clear hcz17_7
            try clear hcz17_8
            try clear hcz17_9
            try clear hcz19_0
            try clear hcz19_1
            try clear hcz19_10
            try clear hcz19_11
            try clear hcz19_12
            try clear hcz19_13
            try clear hcz19_14
            try clear hcz19_15
            try clear hcz19_2
            try clear hcz19_3
            try clear hcz19_4
            try clear hcz19_5
            try clear hcz19_6
            try clear hcz19_7
            try clear hcz19_8
            try clear hcz19_9
            try clear hcz6_0
            try clear hcz6_1
            try clear hcz6_10
            try clear hcz6_11
            try clear hcz6_12
            try clear hcz6_13
            try clear hcz6_14
            try clear hcz6_15
            try clear hcz6_2
            try clear hcz6_3
            try clear hcz6_4
            try clear hcz6_5
            try clear hcz6_6
            try clear hcz6_7
            try clear hcz6_8
            try clear hcz6_9
            try clear hcz9_0
            try clear hcz9_1
            try clear hcz9_10
            try clear hcz9_11
            try clear hcz9_12
            try clear hcz9_13
            try clear hcz9_14
            try clear hcz9_15
            try clear hcz9_2
            try clear hcz9_3
            try clear hcz9_4
            try clear hcz9_5
            try clear hcz9_6
            try clear hcz9_7
            try clear hcz9_8
            try clear hcz9_9
            try clear hfz17_0
            try clear hfz17_1
            try clear hfz17_10
            try clear hfz17_11
            try clear hfz17_12
            try clear hfz17_13
            try clear hfz17_14
            try clear hfz17_15
            try clear hfz17_2
            try clear hfz17_3
            try clear hfz17_4
            try clear hfz17_5
            try clear hfz17_6
            try clear hfz17_7
            try clear hfz17_8
            try clear hfz17_9
            try clear hfz19_0
            try clear hfz19_1
            try clear hfz19_10
            try clear hfz19_11
            try clear hfz19_12
            try clear hfz19_13
            try clear hfz19_14
            try clear hfz19_15
            try clear hfz19_2
            try clear hfz19_3
            try clear hfz19_4
            try clear hfz19_5
            try clear hfz19_6
            try clear hfz19_7
            try clear hfz19_8
            try clear hfz19_9
            try clear hfz6_0
            try clear hfz6_1
            try clear hfz6_10
            try clear hfz6_11
            try clear hfz6_12
            try clear hfz6_13
            try clear hfz6_14
            try clear hfz6_15
            try clear hfz6_2
            try clear hfz6_3
            try clear hfz6_4
            try clear hfz6_5
            try clear hfz6_6
            try clear hfz6_7
            try clear hfz6_8
            try clear hfz6_9
            try clear hfz9_0
            try clear hfz9_1
            try clear hfz9_10
            try clear hfz9_11
            try clear hfz9_12
            try clear hfz9_13
            try clear hfz9_14
            try clear hfz9_15
            try clear hfz9_2
            try clear hfz9_3
            try clear hfz9_4
            try clear hfz9_5
            try clear hfz9_6
            try clear hfz9_7
            try clear hfz9_8
            try clear hfz9_9
            try clear p2
            obtain ⟨x5_2, x6_2, rfl, rfl, HA, HK2, BK305, HB⟩ := hrel
            cases gk with
            | zero => exact absurd HA.out (by simp [conventiclelaw15_LetterSizes.l0])
            | succ k2 =>
              have H := HA.out
              clear HA
              simp only [conventiclelaw15_LetterSizes.l0] at H
              by_cases c20 : x6_2 < (l0_13.length : Int)
              · rw [if_pos c20] at H
                have c20b0 : decide (x6_2 < (l0_13.length : Int)) = true := decide_eq_true c20
                clear c20
                by_cases c21 : 0 ≤ x6_2
                · rw [if_pos c21] at H
                  have c21b0 : decide (0 ≤ x6_2) = true := decide_eq_true c21
                  clear c21
                  have H' := Aside0.mk H
                  clear H
                  have hcz22_0 : wr.cell? ⟨gb305, 0, none⟩ = some (.int .i64 a0_0) := (blk_cell BK305.out 0).trans rfl
                  have hcz22_1 : wr.cell? ⟨gb305, 1, none⟩ = some (.int .i64 a0_1) := (blk_cell BK305.out 1).trans rfl
                  have hcz22_2 : wr.cell? ⟨gb305, 2, none⟩ = some (.int .i64 a0_2) := (blk_cell BK305.out 2).trans rfl
                  have hcz22_3 : wr.cell? ⟨gb305, 3, none⟩ = some (.int .u64 a0_3) := (blk_cell BK305.out 3).trans rfl
                  have hcz22_4 : wr.cell? ⟨gb305, 4, none⟩ = some (.int .i64 a0_4) := (blk_cell BK305.out 4).trans rfl
                  have hcz22_5 : wr.cell? ⟨gb305, 5, none⟩ = some (.slice A0_5 l0_5.length c0_5) := (blk_cell BK305.out 5).trans rfl
                  have hcz22_6 : wr.cell? ⟨gb305, 6, none⟩ = some (.int .u64 a0_6) := (blk_cell BK305.out 6).trans rfl
                  have hcz22_7 : wr.cell? ⟨gb305, 7, none⟩ = some (.int .u64 a0_7) := (blk_cell BK305.out 7).trans rfl
                  have hcz22_8 : wr.cell? ⟨gb305, 8, none⟩ = some (.int .u64 a0_8) := (blk_cell BK305.out 8).trans rfl
                  have hcz22_9 : wr.cell? ⟨gb305, 9, none⟩ = some (.int .u64 a0_9) := (blk_cell BK305.out 9).trans rfl
                  have hcz22_10 : wr.cell? ⟨gb305, 10, none⟩ = some (.int .u64 a0_10) := (blk_cell BK305.out 10).trans rfl
                  have hcz22_11 : wr.cell? ⟨gb305, 11, none⟩ = some (.int .u64 a0_11) := (blk_cell BK305.out 11).trans rfl
                  have hcz22_12 : wr.cell? ⟨gb305, 12, none⟩ = some (.int .u64 a0_12) := (blk_cell BK305.out 12).trans rfl
                  have hcz22_13 : wr.cell? ⟨gb305, 13, none⟩ = some (.slice A0_13 l0_13.length c0_13) := (blk_cell BK305.out 13).trans rfl
                  have hcz22_14 : wr.cell? ⟨gb305, 14, none⟩ = some (.slice A0_14 l0_14.length c0_14) := (blk_cell BK305.out 14).trans rfl
                  have hcz22_15 : wr.cell? ⟨gb305, 15, none⟩ = some (.float .f64 a0_15) := (blk_cell BK305.out 15).trans rfl
                  have hfz22_0 := blk_frozen BK305.out 0
                  have hfz22_1 := blk_frozen BK305.out 1
                  have hfz22_2 := blk_frozen BK305.out 2
                  have hfz22_3 := blk_frozen BK305.out 3
                  have hfz22_4 := blk_frozen BK305.out 4
                  have hfz22_5 := blk_frozen BK305.out 5
                  have hfz22_6 := blk_frozen BK305.out 6
                  have hfz22_7 := blk_frozen BK305.out 7
                  have hfz22_8 := blk_frozen BK305.out 8
                  have hfz22_9 := blk_frozen BK305.out 9
                  have hfz22_10 := blk_frozen BK305.out 10
                  have hfz22_11 := blk_frozen BK305.out 11
                  have hfz22_12 := blk_frozen BK305.out 12
                  have hfz22_13 := blk_frozen BK305.out 13
                  have hfz22_14 := blk_frozen BK305.out 14
                  have hfz22_15 := blk_frozen BK305.out 15
                  have p311 : 0 ≤ (x6_2 : Int) := of_decide_eq_true (by first | (with_reducible assumption) | assumption)
                  have q311 : x6_2 < (l0_13.length : Int) := of_decide_eq_true (by first | (with_reducible assumption) | assumption)
                  obtain ⟨ad311, e311, hx311_0, hx311_1, hx311_2, hx311_3⟩ := at_T53 HR0_13.out x6_2 p311 q311
                  cases e311
                  replace hx311_0 := (HB.out.cell (World.block_lt_of_cell? w _ hx311_0)).trans hx311_0
                  replace hx311_1 := (HB.out.cell (World.block_lt_of_cell? w _ hx311_1)).trans hx311_1
                  replace hx311_2 := (HB.out.cell (World.block_lt_of_cell? w _ hx311_2)).trans hx311_2
                  replace hx311_3 := (HB.out.cell (World.block_lt_of_cell? w _ hx311_3)).trans hx311_3
                  replace p311 := eq_true p311
                  replace q311 := eq_true q311
                  go_wp2
                  go_roundg k2
                  case measure => have := HJ1.out; have := HK2.out; omega
                  case rel => exact ⟨(wrap64 (x5_2 + (wrap64 (19 + (((rd_T53 l0_13 x6_2).f1.f2).size : Int))))), (wrap64 (x6_2 + 1)), (by first | rfl | (simp; done) | (simp [*]; done)), (by first | rfl | (simp; done) | (simp [*]; done)), H', ⟨by have := HJ1.out; have := HK2.out; omega⟩, ⟨by (with_reducible repeat (first | refine blk_drewN ?_ _ | refine blk_drew ?_ | refine blk_alloc ?_ _)); exact BK305.out⟩, ⟨by repeat (first | (with_reducible first | exact HB.out | apply below_alloc | apply pw_below_drewN | apply below_drew1 | refine below_set ?_ GE305.out) | exact HB.out)⟩⟩
                · rw [if_neg c21] at H
                  exact absurd H (by simp)
              · rw [if_neg c20] at H
                have c20b0 : decide (x6_2 < (l0_13.length : Int)) = false := decide_eq_false c20
                clear c20
                obtain rfl := Option.some.inj H
                have hcz23_0 : wr.cell? ⟨gb305, 0, none⟩ = some (.int .i64 a0_0) := (blk_cell BK305.out 0).trans rfl
                have hcz23_1 : wr.cell? ⟨gb305, 1, none⟩ = some (.int .i64 a0_1) := (blk_cell BK305.out 1).trans rfl
                have hcz23_2 : wr.cell? ⟨gb305, 2, none⟩ = some (.int .i64 a0_2) := (blk_cell BK305.out 2).trans rfl
                have hcz23_3 : wr.cell? ⟨gb305, 3, none⟩ = some (.int .u64 a0_3) := (blk_cell BK305.out 3).trans rfl
                have hcz23_4 : wr.cell? ⟨gb305, 4, none⟩ = some (.int .i64 a0_4) := (blk_cell BK305.out 4).trans rfl
                have hcz23_5 : wr.cell? ⟨gb305, 5, none⟩ = some (.slice A0_5 l0_5.length c0_5) := (blk_cell BK305.out 5).trans rfl
                have hcz23_6 : wr.cell? ⟨gb305, 6, none⟩ = some (.int .u64 a0_6) := (blk_cell BK305.out 6).trans rfl
                have hcz23_7 : wr.cell? ⟨gb305, 7, none⟩ = some (.int .u64 a0_7) := (blk_cell BK305.out 7).trans rfl
                have hcz23_8 : wr.cell? ⟨gb305, 8, none⟩ = some (.int .u64 a0_8) := (blk_cell BK305.out 8).trans rfl
                have hcz23_9 : wr.cell? ⟨gb305, 9, none⟩ = some (.int .u64 a0_9) := (blk_cell BK305.out 9).trans rfl
                have hcz23_10 : wr.cell? ⟨gb305, 10, none⟩ = some (.int .u64 a0_10) := (blk_cell BK305.out 10).trans rfl
                have hcz23_11 : wr.cell? ⟨gb305, 11, none⟩ = some (.int .u64 a0_11) := (blk_cell BK305.out 11).trans rfl
                have hcz23_12 : wr.cell? ⟨gb305, 12, none⟩ = some (.int .u64 a0_12) := (blk_cell BK305.out 12).trans rfl
                have hcz23_13 : wr.cell? ⟨gb305, 13, none⟩ = some (.slice A0_13 l0_13.length c0_13) := (blk_cell BK305.out 13).trans rfl
                have hcz23_14 : wr.cell? ⟨gb305, 14, none⟩ = some (.slice A0_14 l0_14.length c0_14) := (blk_cell BK305.out 14).trans rfl
                have hcz23_15 : wr.cell? ⟨gb305, 15, none⟩ = some (.float .f64 a0_15) := (blk_cell BK305.out 15).trans rfl
                have hfz23_0 := blk_frozen BK305.out 0
                have hfz23_1 := blk_frozen BK305.out 1
                have hfz23_2 := blk_frozen BK305.out 2
                have hfz23_3 := blk_frozen BK305.out 3
                have hfz23_4 := blk_frozen BK305.out 4
                have hfz23_5 := blk_frozen BK305.out 5
                have hfz23_6 := blk_frozen BK305.out 6
                have hfz23_7 := blk_frozen BK305.out 7
                have hfz23_8 := blk_frozen BK305.out 8
                have hfz23_9 := blk_frozen BK305.out 9
                have hfz23_10 := blk_frozen BK305.out 10
                have hfz23_11 := blk_frozen BK305.out 11
                have hfz23_12 := blk_frozen BK305.out 12
                have hfz23_13 := blk_frozen BK305.out 13
                have hfz23_14 := blk_frozen BK305.out 14
                have hfz23_15 := blk_frozen BK305.out 15
                go_wp2
                go_ret
                exact ⟨by first | rfl | (simp [errW_none, errW_some] <;> rfl) | (simp [*, errW_none, errW_some] <;> rfl), by repeat (first | (with_reducible first | exact HB.out | apply below_alloc | apply pw_below_drewN | apply below_drew1 | refine below_set ?_ GE305.out) | exact HB.out)⟩
        · rw [if_neg c16] at H
          have c16b0 : (t310 == 0) = false := beq_eq_false_iff_ne.mpr c16
          have c16b1 : (t310 != 0) = true := bne_iff_ne.mpr c16
          obtain rfl := Option.some.inj H
          have hcz24_0 : wc.cell? ⟨gb305, 0, none⟩ = some (.int .i64 a0_0) := (blk_cell BK305.out 0).trans rfl
          have hcz24_1 : wc.cell? ⟨gb305, 1, none⟩ = some (.int .i64 a0_1) := (blk_cell BK305.out 1).trans rfl
          have hcz24_2 : wc.cell? ⟨gb305, 2, none⟩ = some (.int .i64 a0_2) := (blk_cell BK305.out 2).trans rfl
          have hcz24_3 : wc.cell? ⟨gb305, 3, none⟩ = some (.int .u64 a0_3) := (blk_cell BK305.out 3).trans rfl
          have hcz24_4 : wc.cell? ⟨gb305, 4, none⟩ = some (.int .i64 a0_4) := (blk_cell BK305.out 4).trans rfl
          have hcz24_5 : wc.cell? ⟨gb305, 5, none⟩ = some (.slice A0_5 l0_5.length c0_5) := (blk_cell BK305.out 5).trans rfl
          have hcz24_6 : wc.cell? ⟨gb305, 6, none⟩ = some (.int .u64 a0_6) := (blk_cell BK305.out 6).trans rfl
          have hcz24_7 : wc.cell? ⟨gb305, 7, none⟩ = some (.int .u64 a0_7) := (blk_cell BK305.out 7).trans rfl
          have hcz24_8 : wc.cell? ⟨gb305, 8, none⟩ = some (.int .u64 a0_8) := (blk_cell BK305.out 8).trans rfl
          have hcz24_9 : wc.cell? ⟨gb305, 9, none⟩ = some (.int .u64 a0_9) := (blk_cell BK305.out 9).trans rfl
          have hcz24_10 : wc.cell? ⟨gb305, 10, none⟩ = some (.int .u64 a0_10) := (blk_cell BK305.out 10).trans rfl
          have hcz24_11 : wc.cell? ⟨gb305, 11, none⟩ = some (.int .u64 a0_11) := (blk_cell BK305.out 11).trans rfl
          have hcz24_12 : wc.cell? ⟨gb305, 12, none⟩ = some (.int .u64 a0_12) := (blk_cell BK305.out 12).trans rfl
          have hcz24_13 : wc.cell? ⟨gb305, 13, none⟩ = some (.slice A0_13 l0_13.length c0_13) := (blk_cell BK305.out 13).trans rfl
          have hcz24_14 : wc.cell? ⟨gb305, 14, none⟩ = some (.slice A0_14 l0_14.length c0_14) := (blk_cell BK305.out 14).trans rfl
          have hcz24_15 : wc.cell? ⟨gb305, 15, none⟩ = some (.float .f64 a0_15) := (blk_cell BK305.out 15).trans rfl
          have hfz24_0 := blk_frozen BK305.out 0
          have hfz24_1 := blk_frozen BK305.out 1
          have hfz24_2 := blk_frozen BK305.out 2
          have hfz24_3 := blk_frozen BK305.out 3
          have hfz24_4 := blk_frozen BK305.out 4
          have hfz24_5 := blk_frozen BK305.out 5
          have hfz24_6 := blk_frozen BK305.out 6
          have hfz24_7 := blk_frozen BK305.out 7
          have hfz24_8 := blk_frozen BK305.out 8
          have hfz24_9 := blk_frozen BK305.out 9
          have hfz24_10 := blk_frozen BK305.out 10
          have hfz24_11 := blk_frozen BK305.out 11
          have hfz24_12 := blk_frozen BK305.out 12
          have hfz24_13 := blk_frozen BK305.out 13
          have hfz24_14 := blk_frozen BK305.out 14
          have hfz24_15 := blk_frozen BK305.out 15
          go_wp2_with (first | ((with_reducible refine gate_callee (f := 14) rfl ?_); refine goesL_ (some 16) rfl rfl Try.func14 (by kernel_rfl) rfl #[.agg #[.int .i64 a0_0, .int .i64 a0_1, .int .i64 a0_2, .int .u64 a0_3, .int .i64 a0_4, .slice A0_5 l0_5.length c0_5, .int .u64 a0_6, .int .u64 a0_7, .int .u64 a0_8, .int .u64 a0_9, .int .u64 a0_10, .int .u64 a0_11, .int .u64 a0_12, .slice A0_13 l0_13.length c0_13, .slice A0_14 l0_14.length c0_14, .float .f64 a0_15]] rfl (by (try simp only [List.map_toArray, List.map_cons, List.map_nil]); first | done | rfl | (simp only [List.length_drop, List.length_take]; rfl)) ?_; (with_reducible refine (letter_Encode.calls a0_0 a0_1 a0_2 a0_3 a0_4 _ _ l0_5 a0_6 a0_7 a0_8 a0_9 a0_10 a0_11 a0_12 _ _ l0_13 _ _ l0_14 a0_15 t309 t310 _ ?side1 ?side2 ?side3 ?side4 ?side5 ?side6 A15.out).mono ?_); (case side1 => repeat (first | exact (Kd.C_below HR0_5.out HB.out) | (with_reducible refine Kd.C_alloc ?_ _) | (with_reducible refine Kd.C_drewN ?_ _) | (with_reducible refine Kd.C_drew ?_))); (case side2 => exact HC0_5.out); (case side3 => repeat (first | exact (Kd.C_below HR0_13.out HB.out) | (with_reducible refine Kd.C_alloc ?_ _) | (with_reducible refine Kd.C_drewN ?_ _) | (with_reducible refine Kd.C_drew ?_))); (case side4 => exact HC0_13.out); (case side5 => repeat (first | exact (Kd.C_below HR0_14.out HB.out) | (with_reducible refine Kd.C_alloc ?_ _) | (with_reducible refine Kd.C_drewN ?_ _) | (with_reducible refine Kd.C_drew ?_))); (case side6 => exact HC0_14.out); rintro e w25 ⟨rfl, hb⟩; refine ⟨_, rfl, ?_⟩; have n0_ := Aside0.mk (blk_below (g := gb305) (o := .cells #[.int .i64 a0_0, .int .i64 a0_1, .int .i64 a0_2, .int .u64 a0_3, .int .i64 a0_4, .slice A0_5 l0_5.length c0_5, .int .u64 a0_6, .int .u64 a0_7, .int .u64 a0_8, .int .u64 a0_9, .int .u64 a0_10, .int .u64 a0_11, .int .u64 a0_12, .slice A0_13 l0_13.length c0_13, .slice A0_14 l0_14.length c0_14, .float .f64 a0_15] 32 (0, 0)) (by (with_reducible repeat (first | refine blk_drewN ?_ _ | refine blk_drew ?_ | refine blk_alloc ?_ _)); exact BK305.out) hb); have n1_ := Aside0.mk (below_step (by repeat (first | (with_reducible first | exact HB.out | apply below_alloc | apply pw_below_drewN | apply below_drew1 | refine below_set ?_ GE305.out) | exact HB.out)) hb); clear BK305; clear HB; have BK305 := n0_; have HB := n1_; clear n0_ n1_; (try clear hb); (try clear hb2); (try clear hk); (try clear hi)))
          go_ret
          exact ⟨by first | rfl | (simp [errW_none, errW_some] <;> rfl) | (simp [*, errW_none, errW_some] <;> rfl), by repeat (first | (with_reducible first | exact HB.out | apply below_alloc | apply pw_below_drewN | apply below_drew1 | refine below_set ?_ GE305.out) | exact HB.out)⟩

/-- THE ONE PURE STATEMENT of conventiclelaw15_LetterSizes: yours. -/
def conventiclelaw15_LetterSizes.Pure : Prop := ∀ (a0_0 : Int) (a0_1 : Int) (a0_2 : Int) (a0_3 : Int) (a0_4 : Int) (l0_5 : List (S70)) (a0_6 : Int) (a0_7 : Int) (a0_8 : Int) (a0_9 : Int) (a0_10 : Int) (a0_11 : Int) (a0_12 : Int) (l0_13 : List (S53)) (l0_14 : List (S77)) (a0_15 : Nat), (Lit.int .i64 a0_0).wf = true → (Lit.int .i64 a0_1).wf = true → (Lit.int .i64 a0_2).wf = true → (Lit.int .u64 a0_3).wf = true → (Lit.int .i64 a0_4).wf = true → (l0_5.length ≤ maxLen ∧ ∀ a ∈ l0_5, wf70 a) → (Lit.int .u64 a0_6).wf = true → (Lit.int .u64 a0_7).wf = true → (Lit.int .u64 a0_8).wf = true → (Lit.int .u64 a0_9).wf = true → (Lit.int .u64 a0_10).wf = true → (Lit.int .u64 a0_11).wf = true → (Lit.int .u64 a0_12).wf = true → (l0_13.length ≤ maxLen ∧ ∀ a ∈ l0_13, wf53 a) → (l0_14.length ≤ maxLen ∧ ∀ a ∈ l0_14, wf77 a) → a0_15 < 18446744073709551616 → ∃ k, conventiclelaw15_LetterSizes.f k a0_0 a0_1 a0_2 a0_3 a0_4 l0_5 a0_6 a0_7 a0_8 a0_9 a0_10 a0_11 a0_12 l0_13 l0_14 a0_15 = some true
theorem conventiclelaw15_LetterSizes.walk (P : conventiclelaw15_LetterSizes.Pure) (a0_0 : Int) (a0_1 : Int) (a0_2 : Int) (a0_3 : Int) (a0_4 : Int) (A0_5 : Option Addr) (c0_5 : Nat) (l0_5 : List (S70)) (a0_6 : Int) (a0_7 : Int) (a0_8 : Int) (a0_9 : Int) (a0_10 : Int) (a0_11 : Int) (a0_12 : Int) (A0_13 : Option Addr) (c0_13 : Nat) (l0_13 : List (S53)) (A0_14 : Option Addr) (c0_14 : Nat) (l0_14 : List (S77)) (a0_15 : Nat) (w : World) (hr0_5 : Kd.C k70 w A0_5 l0_5.length l0_5) (hc0_5 : l0_5.length ≤ c0_5) (hr0_13 : Kd.C k53 w A0_13 l0_13.length l0_13) (hc0_13 : l0_13.length ≤ c0_13) (hr0_14 : Kd.C k77 w A0_14 l0_14.length l0_14) (hc0_14 : l0_14.length ≤ c0_14) (w0_0 : (Lit.int .i64 a0_0).wf = true) (w0_1 : (Lit.int .i64 a0_1).wf = true) (w0_2 : (Lit.int .i64 a0_2).wf = true) (w0_3 : (Lit.int .u64 a0_3).wf = true) (w0_4 : (Lit.int .i64 a0_4).wf = true) (w0_5 : (l0_5.length ≤ maxLen ∧ ∀ a ∈ l0_5, wf70 a)) (w0_6 : (Lit.int .u64 a0_6).wf = true) (w0_7 : (Lit.int .u64 a0_7).wf = true) (w0_8 : (Lit.int .u64 a0_8).wf = true) (w0_9 : (Lit.int .u64 a0_9).wf = true) (w0_10 : (Lit.int .u64 a0_10).wf = true) (w0_11 : (Lit.int .u64 a0_11).wf = true) (w0_12 : (Lit.int .u64 a0_12).wf = true) (w0_13 : (l0_13.length ≤ maxLen ∧ ∀ a ∈ l0_13, wf53 a)) (w0_14 : (l0_14.length ≤ maxLen ∧ ∀ a ∈ l0_14, wf77 a)) (w0_15 : a0_15 < 18446744073709551616) :
    Calls Try.prog 6 #[.agg #[.int .i64 a0_0, .int .i64 a0_1, .int .i64 a0_2, .int .u64 a0_3, .int .i64 a0_4, .slice A0_5 l0_5.length c0_5, .int .u64 a0_6, .int .u64 a0_7, .int .u64 a0_8, .int .u64 a0_9, .int .u64 a0_10, .int .u64 a0_11, .int .u64 a0_12, .slice A0_13 l0_13.length c0_13, .slice A0_14 l0_14.length c0_14, .float .f64 a0_15]] w fun e w' => e = .returned (.bool true) ∧ Below w.heap.size w w' := by
  obtain ⟨k, h⟩ := P a0_0 a0_1 a0_2 a0_3 a0_4 l0_5 a0_6 a0_7 a0_8 a0_9 a0_10 a0_11 a0_12 l0_13 l0_14 a0_15 w0_0 w0_1 w0_2 w0_3 w0_4 w0_5 w0_6 w0_7 w0_8 w0_9 w0_10 w0_11 w0_12 w0_13 w0_14 w0_15
  refine (conventiclelaw15_LetterSizes.calls k a0_0 a0_1 a0_2 a0_3 a0_4 _ _ l0_5 a0_6 a0_7 a0_8 a0_9 a0_10 a0_11 a0_12 _ _ l0_13 _ _ l0_14 a0_15 true w hr0_5 hc0_5 hr0_13 hc0_13 hr0_14 hc0_14 h).mono ?_
  rintro e w' ⟨rfl, hd⟩
  exact ⟨rfl, hd⟩

/-! ### conventicleref01_Number: function 87 -/
mutual
def conventicleref01_Number.j0 : Nat → Int → Int → Bool → Option (ByteArray × Int)
  | 0, _, _, _ => none
  | k + 1, x0, x1, x24 => if x24 = true then (some ((⟨#[]⟩ : ByteArray), 1)) else (conventicleref01_Number.l0 k x0 x1 (([] : List Int)) 0)
def conventicleref01_Number.l0 : Nat → Int → Int → List Int → Int → Option (ByteArray × Int)
  | 0, _, _, _, _ => none
  | k + 1, x0, x1, x6, x7 => if x7 < x1 then (if 0 ≤ (wrap64 (8 * x7)) then (if x6.length < 140737488355328 then (conventicleref01_Number.l0 k x0 x1 (x6 ++ [(shr .u64 x0 (wrap64 (8 * x7))) % 256]) (wrap64 (x7 + 1))) else (none)) else (none)) else (some (strOfNums x6, 0))
end
def conventicleref01_Number.f (k : Nat) (a0 : Int) (a1 : Int) : Option (ByteArray × Int) := if a1 < 1 then (conventicleref01_Number.j0 k a0 a1 true) else (if a1 > 8 then (conventicleref01_Number.j0 k a0 a1 true) else (if a1 < 8 then (if 0 ≤ (wrap64 (8 * a1)) then (conventicleref01_Number.j0 k a0 a1 (decide ((shr .u64 a0 (wrap64 (8 * a1))) > 0))) else (none)) else (conventicleref01_Number.j0 k a0 a1 false)))
theorem conventicleref01_Number.mono_l : ∀ k, (∀ y0 y1 y2, LeO (conventicleref01_Number.j0 k y0 y1 y2) (conventicleref01_Number.j0 (k + 1) y0 y1 y2)) ∧ (∀ y0 y1 y2 y3, LeO (conventicleref01_Number.l0 k y0 y1 y2 y3) (conventicleref01_Number.l0 (k + 1) y0 y1 y2 y3))
  | 0 => ⟨fun _ _ _ r h => by simp [conventicleref01_Number.j0] at h, fun _ _ _ _ r h => by simp [conventicleref01_Number.l0] at h⟩
  | k + 1 => by
    obtain ⟨ih0, ih1⟩ := conventicleref01_Number.mono_l k
    refine ⟨?_, ?_⟩
    · intro y0 y1 y2
      unfold conventicleref01_Number.j0
      repeat' first
      | (with_reducible exact ih0 _ _ _)
      | (with_reducible exact ih1 _ _ _ _)
      | (with_reducible exact LeO.refl _)
      | (with_reducible exact LeO.none _)
      | (with_reducible refine LeO.ite ?_ ?_)
      | (with_reducible refine LeO.bind ?_ (fun _ => ?_))
      | exact ih0 _ _ _
      | exact ih1 _ _ _ _
      | exact LeO.none _
      | refine LeO.ite ?_ ?_
      | refine LeO.bind ?_ (fun _ => ?_)
    · intro y0 y1 y2 y3
      unfold conventicleref01_Number.l0
      repeat' first
      | (with_reducible exact ih0 _ _ _)
      | (with_reducible exact ih1 _ _ _ _)
      | (with_reducible exact LeO.refl _)
      | (with_reducible exact LeO.none _)
      | (with_reducible refine LeO.ite ?_ ?_)
      | (with_reducible refine LeO.bind ?_ (fun _ => ?_))
      | exact ih0 _ _ _
      | exact ih1 _ _ _ _
      | exact LeO.none _
      | refine LeO.ite ?_ ?_
      | refine LeO.bind ?_ (fun _ => ?_)
theorem conventicleref01_Number.mono : ∀ a0 a1 k, LeO (conventicleref01_Number.f k a0 a1) (conventicleref01_Number.f (k + 1) a0 a1) := by
  intro a0 a1 k
  obtain ⟨ih0, ih1⟩ := conventicleref01_Number.mono_l k
  unfold conventicleref01_Number.f
  repeat' first
      | (with_reducible exact ih0 _ _ _)
      | (with_reducible exact ih1 _ _ _ _)
      | (with_reducible exact LeO.refl _)
      | (with_reducible exact LeO.none _)
      | (with_reducible refine LeO.ite ?_ ?_)
      | (with_reducible refine LeO.bind ?_ (fun _ => ?_))
      | exact ih0 _ _ _
      | exact ih1 _ _ _ _
      | exact LeO.none _
      | refine LeO.ite ?_ ?_
      | refine LeO.bind ?_ (fun _ => ?_)
set_option maxHeartbeats 8000000 in
set_option maxRecDepth 100000 in
theorem conventicleref01_Number.calls (k : Nat) (a0 : Int) (a1 : Int) (r1 : ByteArray) (r2 : Int) (w : World) (h : conventicleref01_Number.f k a0 a1 = some (r1, r2)) :
    Calls Try.prog 87 #[.int .u64 a0, .int .i64 a1] w fun e w' => e = .returned (.tuple #[.string r1, .int .i64 r2]) ∧ Below w.heap.size w w' := by
  have HB := Aside0.mk (Below.refl w.heap.size w)
  have H : (if a1 < 1 then (conventicleref01_Number.j0 k a0 a1 true) else (if a1 > 8 then (conventicleref01_Number.j0 k a0 a1 true) else (if a1 < 8 then (if 0 ≤ (wrap64 (8 * a1)) then (conventicleref01_Number.j0 k a0 a1 (decide ((shr .u64 a0 (wrap64 (8 * a1))) > 0))) else (none)) else (conventicleref01_Number.j0 k a0 a1 false)))) = some (r1, r2) := h
  clear h
  have HC3 := Aside0.mk H
  clear H
  go_enter Try.func87, Try.ntmps87
  go_upto_region 1 with (fail)
  go_cut [24] (fun v24 wc => ∃ (kq : Nat) (x24_2 : Bool), v24 = .bool x24_2 ∧ Aside0 (conventicleref01_Number.j0 kq a0 a1 x24_2 = some (r1, r2)) ∧ Aside0 (kq ≤ k) ∧ Aside0 (Below w.heap.size w wc))
  case first =>
    have H := HC3.out
    clear HC3
    by_cases c4 : a1 < 1
    · rw [if_pos c4] at H
      have c4b0 : decide (a1 < 1) = true := decide_eq_true c4
      clear c4
      (first | rw [c4b0] | (simp only [i64_w, i32_w]; rw [c4b0]) | skip)
      have H' := Aside0.mk H
      clear H
      go_wp2
      go_meet
      case rel => exact ⟨_, (true), (by first | rfl | (simp; done) | (simp [*]; done)), H', ⟨by first | omega | exact Nat.le_refl _⟩, ⟨by repeat (first | (with_reducible first | exact HB.out | apply below_alloc | apply pw_below_drewN | apply below_drew1) | exact HB.out)⟩⟩
    · rw [if_neg c4] at H
      have c4b0 : decide (a1 < 1) = false := decide_eq_false c4
      clear c4
      (first | rw [c4b0] | (simp only [i64_w, i32_w]; rw [c4b0]) | skip)
      by_cases c5 : a1 > 8
      · rw [if_pos c5] at H
        have c5b0 : decide (8 < a1) = true := decide_eq_true c5
        clear c5
        have H' := Aside0.mk H
        clear H
        go_wp2
        go_meet
        case rel => exact ⟨_, (true), (by first | rfl | (simp; done) | (simp [*]; done)), H', ⟨by first | omega | exact Nat.le_refl _⟩, ⟨by repeat (first | (with_reducible first | exact HB.out | apply below_alloc | apply pw_below_drewN | apply below_drew1) | exact HB.out)⟩⟩
      · rw [if_neg c5] at H
        have c5b0 : decide (8 < a1) = false := decide_eq_false c5
        clear c5
        by_cases c6 : a1 < 8
        · rw [if_pos c6] at H
          have c6b0 : decide (a1 < 8) = true := decide_eq_true c6
          clear c6
          obtain ⟨ji7, hji7⟩ : ∃ j_ : Int, (wrap64 (8 * a1)) = j_ := ⟨_, rfl⟩
          replace H : (if 0 ≤ (ji7) then (conventicleref01_Number.j0 k a0 a1 (decide ((shr .u64 a0 (ji7)) > 0))) else (none)) = some (r1, r2) := by first | (rw [hji7] at H; exact H) | (simp only [hji7] at H ⊢; exact H)
          have hji7w : (IntKind.i64.wrap (8 * a1)) = ji7 := (i64_w _).trans hji7
          by_cases c8 : 0 ≤ (ji7)
          · rw [if_pos c8] at H
            have c8b0 := eq_true c8
            have c8b1 : decide (0 ≤ (ji7)) = true := decide_eq_true c8
            clear c8
            obtain ⟨ji9, hji9⟩ : ∃ j_ : Int, (shr .u64 a0 (ji7)) = j_ := ⟨_, rfl⟩
            replace H : (conventicleref01_Number.j0 k a0 a1 (decide ((ji9) > 0))) = some (r1, r2) := by first | (rw [hji9] at H; exact H) | (simp only [hji9] at H ⊢; exact H)
            have hji9_ : (a0 / 2 ^ min (ji7).toNat 64) = ji9 := hji9
            have hji9z : (ji7) ≤ 64 → (a0 / 2 ^ (ji7).toNat) = ji9 := shr_small hji9
            have H' := Aside0.mk H
            clear H
            go_wp2
            go_meet
            case rel => exact ⟨_, (decide ((ji9) > 0)), (by first | rfl | (simp; done) | (simp only [← hji9] <;> (first | rfl | simp)) | (simp [*]; done)), H', ⟨by first | omega | exact Nat.le_refl _⟩, ⟨by repeat (first | (with_reducible first | exact HB.out | apply below_alloc | apply pw_below_drewN | apply below_drew1) | exact HB.out)⟩⟩
          · rw [if_neg c8] at H
            exact absurd H (by simp)
        · rw [if_neg c6] at H
          have c6b0 : decide (a1 < 8) = false := decide_eq_false c6
          clear c6
          have H' := Aside0.mk H
          clear H
          go_wp2
          go_meet
          case rel => exact ⟨_, (false), (by first | rfl | (simp; done) | (simp [*]; done)), H', ⟨by first | omega | exact Nat.le_refl _⟩, ⟨by repeat (first | (with_reducible first | exact HB.out | apply below_alloc | apply pw_below_drewN | apply below_drew1) | exact HB.out)⟩⟩
  case rest =>
    clear HC3
    try clear p2
    try clear c4
    try clear c4b0
    try clear c5
    try clear c5b0
    try clear c6
    try clear c6b0
    try clear p6
    try clear c8
    try clear c8b0
    try clear c8b1
    obtain ⟨kq, x24_2, rfl, HA, HJ2, HB⟩ := hcut
    cases kq with
    | zero => exact absurd HA.out (by simp [conventicleref01_Number.j0])
    | succ kj2 =>
      have H := HA.out
      clear HA
      simp only [conventicleref01_Number.j0] at H
      by_cases c10 : x24_2 = true
      · subst c10
        have H1 : (some ((⟨#[]⟩ : ByteArray), 1)) = some (r1, r2) := by rw [if_pos rfl] at H; exact H
        clear H
        have H := H1
        clear H1
        simp only [Option.some.injEq, Prod.mk.injEq] at H
        obtain ⟨rfl, rfl⟩ := H
        go_wp2
        go_ret2
        exact ⟨by first | rfl | (simp [errW_none, errW_some] <;> rfl) | (simp [*, errW_none, errW_some] <;> rfl), by repeat (first | (with_reducible first | exact HB.out | apply below_alloc | apply pw_below_drewN | apply below_drew1) | exact HB.out)⟩
      · replace c10 := Bool.eq_false_iff.mpr c10
        subst c10
        have H1 : (conventicleref01_Number.l0 kj2 a0 a1 (([] : List Int)) 0) = some (r1, r2) := by rw [if_neg (show ¬ (false = true) by decide)] at H; exact H
        clear H
        have H := H1
        clear H1
        obtain ⟨y312, hy312⟩ : ∃ y_ : List Int, y_ = (([] : List Int)) := ⟨_, rfl⟩
        replace H : (conventicleref01_Number.l0 kj2 a0 a1 y312 0) = some (r1, r2) := by first | (rw [hy312]; with_reducible exact H) | (have H2_ := (Option.bind_some _ _).symm.trans H; rw [hy312]; with_reducible exact H2_) | (have H2_ := (Option.bind_some _ _).symm.trans H; with_reducible exact H2_) | with_reducible exact H | (rw [hy312]; exact H) | exact H
        have Ny312 := Aside0.mk hy312
        clear hy312
        have H' := Aside0.mk H
        clear H
        go_wp2_with (first | ((with_reducible refine gate_dst (N := 25) rfl ?_); refine Kd.R_lit (Kd.int .u8) _ 5 ?hg (N := 25) ?hd (xs := ([] : List Int)) (inner := []) (ok := fun _ => True) (okp := fun _ => True) ?hr ?hp (fun _ hk => hk) trivial (Below.refl _ _) (Nat.le_refl _) (by simp) ?_; (case hd => rfl); (case hg => rfl); (case hr => first | (go_simp; done) | (go_simp; rfl)); (case hp => exact (Reps.none _ _)); intro v313 w11 ho12 hb hg_ hnew_; clear hg_ hnew_; (first | rw [← Ny312.out] at ho12 | (simp only [Int.reduceToNat] at ho12; rw [← Ny312.out] at ho12)); have n0_ := Aside0.mk (Kd.R_lower ho12 (below_size (by repeat (first | (with_reducible first | exact HB.out | apply below_alloc | apply pw_below_drewN | apply below_drew1) | exact HB.out)))); have n1_ := Aside0.mk (below_step (by repeat (first | (with_reducible first | exact HB.out | apply below_alloc | apply pw_below_drewN | apply below_drew1) | exact HB.out)) hb); clear HB; have HO314 := n0_; have HB := n1_; clear n0_ n1_; clear hb ho12))
        go_loopg [6, 7] kj2 (fun kq v6 v7 w' => ∃ (x6_2 : List Int) (x7_2 : Int), v7 = .int .i64 x7_2 ∧ Aside0 (conventicleref01_Number.l0 kq a0 a1 x6_2 x7_2 = some (r1, r2)) ∧ Aside0 (kq ≤ kj2) ∧ Aside0 (Kd.R (Kd.int .u8) 5 w' w.heap.size (fun _ => True) v6 x6_2) ∧ Aside0 (Below w.heap.size w w'))
        case atStart => exact ⟨(y312), (0), (by first | rfl | (simp; done) | (simp [*]; done)), H', ⟨Nat.le_refl _⟩, ⟨by (with_reducible repeat (first | apply Kd.R_alloc | apply Kd.R_drewN | apply Kd.R_drew)); exact HO314.out⟩, ⟨by repeat (first | (with_reducible first | exact HB.out | apply below_alloc | apply pw_below_drewN | apply below_drew1) | exact HB.out)⟩⟩
        case round =>
          clear H'
          try clear c1
          try clear p2
          try clear c4
          try clear c4b0
          try clear c5
          try clear c5b0
          try clear c6
          try clear c6b0
          try clear p6
          try clear c8
          try clear c8b0
          try clear c8b1
          try clear c10
          try clear p2
          try clear p6
          obtain ⟨x6_2, x7_2, rfl, HA, HK2, HO_6, HB⟩ := hrel
          cases gk with
          | zero => exact absurd HA.out (by simp [conventicleref01_Number.l0])
          | succ k2 =>
            have H := HA.out
            clear HA
            simp only [conventicleref01_Number.l0] at H
            by_cases c13 : x7_2 < a1
            · rw [if_pos c13] at H
              have c13b0 : decide (x7_2 < a1) = true := decide_eq_true c13
              clear c13
              obtain ⟨ji14, hji14⟩ : ∃ j_ : Int, (wrap64 (8 * x7_2)) = j_ := ⟨_, rfl⟩
              replace H : (if 0 ≤ (ji14) then (if x6_2.length < 140737488355328 then (conventicleref01_Number.l0 k2 a0 a1 (x6_2 ++ [(shr .u64 a0 (ji14)) % 256]) (wrap64 (x7_2 + 1))) else (none)) else (none)) = some (r1, r2) := by first | (rw [hji14] at H; exact H) | (simp only [hji14] at H ⊢; exact H)
              have hji14w : (IntKind.i64.wrap (8 * x7_2)) = ji14 := (i64_w _).trans hji14
              by_cases c15 : 0 ≤ (ji14)
              · rw [if_pos c15] at H
                have c15b0 := eq_true c15
                have c15b1 : decide (0 ≤ (ji14)) = true := decide_eq_true c15
                clear c15
                obtain ⟨ji16, hji16⟩ : ∃ j_ : Int, (shr .u64 a0 (ji14)) = j_ := ⟨_, rfl⟩
                replace H : (if x6_2.length < 140737488355328 then (conventicleref01_Number.l0 k2 a0 a1 (x6_2 ++ [(ji16) % 256]) (wrap64 (x7_2 + 1))) else (none)) = some (r1, r2) := by first | (rw [hji16] at H; exact H) | (simp only [hji16] at H ⊢; exact H)
                have hji16_ : (a0 / 2 ^ min (ji14).toNat 64) = ji16 := hji16
                have hji16z : (ji14) ≤ 64 → (a0 / 2 ^ (ji14).toNat) = ji16 := shr_small hji16
                by_cases c17 : x6_2.length < 140737488355328
                · rw [if_pos c17] at H
                  have LMc17 := Aside0.mk c17
                  clear c17
                  obtain ⟨y315, hy315⟩ : ∃ y_ : List Int, y_ = (x6_2 ++ [(ji16) % 256]) := ⟨_, rfl⟩
                  replace H : (conventicleref01_Number.l0 k2 a0 a1 y315 (wrap64 (x7_2 + 1))) = some (r1, r2) := by first | (rw [hy315]; with_reducible exact H) | (have H2_ := (Option.bind_some _ _).symm.trans H; rw [hy315]; with_reducible exact H2_) | (have H2_ := (Option.bind_some _ _).symm.trans H; with_reducible exact H2_) | with_reducible exact H | (rw [hy315]; exact H) | exact H
                  have Ny315 := Aside0.mk hy315
                  clear hy315
                  have H' := Aside0.mk H
                  clear H
                  go_wp2_with (first | ((with_reducible refine gate_builtin (b := .append) (xs := #[.tmp 31, .tmp 37]) rfl ?_); at_builtin; refine Kd.R_append (Kd.int .u8) (w0 := w) w.heap.size rfl (.tmp 31) (.tmp 37) 48 5 (.int .u8 0) 1 rfl Try.underlying48 info5 rfl (by decide) (by omega) u6 x6_2 ((ji16) % 256) [.int .u8 ((ji16) % 256)] (fun _ => True) (fun _ => False) rfl rfl ?aP (fun _ hk => hk.elim) ?aF ?aO ?aB ?aS ?aL ?_; (case aP => exact rfl); (case aB => exact (by repeat (first | (with_reducible first | exact HB.out | apply below_alloc | apply pw_below_drewN | apply below_drew1) | exact HB.out))); (case aF => exact (fun _ _ => trivial)); (case aO => exact (by (with_reducible repeat (first | apply Kd.R_alloc | apply Kd.R_drewN | apply Kd.R_drew)); exact HO_6.out)); (case aS => exact (below_size (by repeat (first | (with_reducible first | exact HB.out | apply below_alloc | apply pw_below_drewN | apply below_drew1) | exact HB.out)))); (case aL => have := LMc17.out; omega); intro v316 w18 ho hb hg hat; rw [← Ny315.out] at ho; have n0_ := Aside0.mk (hb); have n1_ := Aside0.mk (ho); clear HB; clear HO_6; have HB := n0_; have HO317 := n1_; clear n0_ n1_; clear ho hb hg hat))
                  go_roundg k2
                  case measure => have := HJ2.out; have := HK2.out; omega
                  case rel => exact ⟨(y315), (wrap64 (x7_2 + 1)), (by first | rfl | (simp; done) | (simp [*]; done)), H', ⟨by have := HJ2.out; have := HK2.out; omega⟩, ⟨by (with_reducible repeat (first | apply Kd.R_alloc | apply Kd.R_drewN | apply Kd.R_drew)); exact HO317.out⟩, ⟨by repeat (first | (with_reducible first | exact HB.out | apply below_alloc | apply pw_below_drewN | apply below_drew1) | exact HB.out)⟩⟩
                · rw [if_neg c17] at H
                  exact absurd H (by simp)
              · rw [if_neg c15] at H
                exact absurd H (by simp)
            · rw [if_neg c13] at H
              have c13b0 : decide (x7_2 < a1) = false := decide_eq_false c13
              clear c13
              simp only [Option.some.injEq, Prod.mk.injEq] at H
              obtain ⟨rfl, rfl⟩ := H
              have hcv19 := own_string (P := Try.prog) Try.underlying48 Try.underlying5 Try.underlying9 (Kd.own_of_R HO_6.out)
              go_wp2
              go_ret2
              exact ⟨by first | rfl | (simp [errW_none, errW_some] <;> rfl) | (simp [*, errW_none, errW_some] <;> rfl), by repeat (first | (with_reducible first | exact HB.out | apply below_alloc | apply pw_below_drewN | apply below_drew1) | exact HB.out)⟩

end Go.Proofs.Ytondgoabnmgcaaa.B
end
section
/- A heavy letter, in plain words; how long a letter's bytes are. -/
namespace Go.Proofs.Ytondgoabnmgcaaa.Pure
open Go.RowKit Go.Proofs.Ytondgoabnmgcaaa.B Go.Proofs.YtondgoabnmgcaaaW.PrintWords Go.Proofs.YtondgoabnmgcaaaW.PrintLast
open Go.Proofs.YtondgoabnmgcaaaO.R (le le_length rbits)
set_option linter.unusedVariables false
theorem rd53 (l : List S53) (j : Nat) (h : j < l.length) : rd_T53 l (j : Int) = l[j] := by
  unfold rd_T53
  rw [Int.toNat_natCast, List.getD_eq_getElem?_getD, List.getElem?_eq_getElem h]; rfl
def longP (p : S53) : Bool := decide ((p.f1.f2.size : Int) > 100)
section
variable (a0 a1 a2 a3 a4 : Int) (l5 : List S70) (a6 a7 a8 a9 a10 a11 a12 : Int) (l13 : List S53) (l14 : List S77) (a15 : Nat)
theorem heavy_l0 (hl : l13.length ≤ maxLen) : ∀ (n j k : Nat), j + n = l13.length → n < k →
    conventiclelaw15_heavy.l0 k (j : Int) a0 a1 a2 a3 a4 l5 a6 a7 a8 a9 a10 a11 a12 l13 l14 a15 = some ((l13.drop j).any longP) := by
  intro n
  induction n with
  | zero =>
    intro j k hj hk
    obtain ⟨k, rfl⟩ : ∃ m, k = m + 1 := ⟨k - 1, by omega⟩
    rw [conventiclelaw15_heavy.l0, if_neg (by omega), List.drop_eq_nil_of_le (by omega)]
    rfl
  | succ n ih =>
    intro j k hj hk
    obtain ⟨k, rfl⟩ : ∃ m, k = m + 1 := ⟨k - 1, by omega⟩
    have hlt : j < l13.length := by omega
    rw [conventiclelaw15_heavy.l0, if_pos (by omega), if_pos (by omega), rd53 l13 j hlt, List.drop_eq_getElem_cons hlt, List.any_cons]
    have hw : wrap64 ((j : Int) + 1) = ((j + 1 : Nat) : Int) := by unfold wrap64; unfold maxLen at hl; omega
    by_cases h1 : (l13[j].f1.f2.size : Int) > 100
    · rw [if_pos h1]
      have : longP l13[j] = true := by unfold longP; exact decide_eq_true h1
      rw [this, Bool.true_or]
    · rw [if_neg h1, hw, ih (j + 1) k (by omega) (by omega)]
      have : longP l13[j] = false := by unfold longP; exact decide_eq_false h1
      rw [this, Bool.false_or]
def heavyB : Bool := decide ((l5.length : Int) > 30) || (decide ((l13.length : Int) > 30) || (decide ((l14.length : Int) > 40) || l13.any longP))
theorem heavy_is (hl : l13.length ≤ maxLen) (k : Nat) (hk : l13.length + 1 < k) : conventiclelaw15_heavy.f k a0 a1 a2 a3 a4 l5 a6 a7 a8 a9 a10 a11 a12 l13 l14 a15 = some (heavyB l5 l13 l14) := by
  obtain ⟨k, rfl⟩ : ∃ m, k = m + 1 := ⟨k - 1, by omega⟩
  have h0 := heavy_l0 a0 a1 a2 a3 a4 l5 a6 a7 a8 a9 a10 a11 a12 l13 l14 a15 hl l13.length 0 k (by omega) (by omega)
  rw [List.drop_zero] at h0
  unfold conventiclelaw15_heavy.f heavyB
  by_cases h1 : (l5.length : Int) > 30
  · rw [if_pos h1, conventiclelaw15_heavy.j0, if_pos rfl, decide_eq_true h1, Bool.true_or]
  rw [if_neg h1, decide_eq_false h1, Bool.false_or]
  by_cases h2 : (l13.length : Int) > 30
  · rw [if_pos h2, conventiclelaw15_heavy.j0, if_pos rfl, decide_eq_true h2, Bool.true_or]
  rw [if_neg h2, decide_eq_false h2, Bool.false_or]
  by_cases h3 : (l14.length : Int) > 40
  · rw [decide_eq_true h3, conventiclelaw15_heavy.j0, if_pos rfl, Bool.true_or]
  rw [decide_eq_false h3, conventiclelaw15_heavy.j0, if_neg (by decide), Bool.false_or]
  exact h0
def sumP : List S53 → Nat
  | [] => 0
  | p :: l => 19 + p.f1.f2.size + sumP l
theorem len_encU (l : List S70) : (l.flatMap encU).length = 10 * l.length := by
  induction l with
  | nil => rfl
  | cons u l ih => rw [List.flatMap_cons, List.length_append, ih, encU, List.length_append, List.length_append, le_length, le_length, le_length, List.length_cons]; omega
theorem len_encX (l : List S77) : (l.flatMap encX).length = 16 * l.length := by
  induction l with
  | nil => rfl
  | cons u l ih => rw [List.flatMap_cons, List.length_append, ih, encX, List.length_append, le_length, le_length, List.length_cons]; omega
theorem len_encP (l : List S53) : (l.flatMap encP).length = sumP l := by
  induction l with
  | nil => rfl
  | cons p l ih =>
    rw [List.flatMap_cons, List.length_append, ih, encP, List.length_append, List.length_append, List.length_append, List.length_append, le_length, le_length, le_length, le_length, bytesOf_length, sumP]
    omega
theorem len_encL : (encL a0 a1 a2 a3 a4 l5 a6 a7 a8 a9 a10 a11 a12 l13 l14 a15).length = 79 + 10 * l5.length + sumP l13 + 16 * l14.length := by
  unfold encL
  simp only [List.length_append, le_length, len_encU, len_encP, len_encX, List.length_nil]
  omega
end
theorem u64_wf {n : Int} (h : (Lit.int .u64 n).wf = true) : u64B n = true := by
  have : 0 ≤ n ∧ n < 18446744073709551616 := by
    simp [Lit.wf, IntKind.min, IntKind.max, IntKind.signed, IntKind.bits] at h; omega
  simpa [u64B] using this
theorem sealS_size (s : ByteArray) : (sealS s).size = s.size + 4 := by
  unfold sealS
  rw [ByteArray.size_append, Go.Proofs.YtondgoabnmgcaaaG.Pure.four_size]
end Go.Proofs.Ytondgoabnmgcaaa.Pure
end
section
/- Plain: a letter has so many bytes as its parts come to. -/
namespace Go.Proofs.Ytondgoabnmgcaaa.Pure
open Go.RowKit Go.Proofs.Ytondgoabnmgcaaa.B Go.Proofs.YtondgoabnmgcaaaW.PrintWords Go.Proofs.YtondgoabnmgcaaaW.PrintLast
open Go.Proofs.YtondgoabnmgcaaaO.R (le le_length rbits)
set_option linter.unusedVariables false
section
variable (a0 a1 a2 a3 a4 : Int) (l5 : List S70) (a6 a7 a8 a9 a10 a11 a12 : Int) (l13 : List S53) (l14 : List S77) (a15 : Nat)
theorem sizes_l0 (hl : l13.length ≤ 6) (h64 : ∀ p ∈ l13, p.f1.f2.size ≤ 64) (s : ByteArray) : ∀ (n j k m : Nat), j + n = l13.length → n < k → m ≤ 100000 * (j + 1) →
    conventiclelaw15_LetterSizes.l0 k s (m : Int) (j : Int) a0 a1 a2 a3 a4 l5 a6 a7 a8 a9 a10 a11 a12 l13 l14 a15 = some ((s.size : Int) == ((m + sumP (l13.drop j) : Nat) : Int)) := by
  intro n
  induction n with
  | zero =>
    intro j k m hj hk hm
    obtain ⟨k, rfl⟩ : ∃ m, k = m + 1 := ⟨k - 1, by omega⟩
    rw [conventiclelaw15_LetterSizes.l0, if_neg (by omega), List.drop_eq_nil_of_le (by omega)]
    rfl
  | succ n ih =>
    intro j k m hj hk hm
    obtain ⟨k, rfl⟩ : ∃ m, k = m + 1 := ⟨k - 1, by omega⟩
    have hlt : j < l13.length := by omega
    have h6 := h64 l13[j] (List.getElem_mem hlt)
    rw [conventiclelaw15_LetterSizes.l0, if_pos (by omega), if_pos (by omega), rd53 l13 j hlt, List.drop_eq_getElem_cons hlt, sumP]
    have hw : wrap64 ((j : Int) + 1) = ((j + 1 : Nat) : Int) := by unfold wrap64; omega
    have hw1 : wrap64 (19 + (l13[j].f1.f2.size : Int)) = ((19 + l13[j].f1.f2.size : Nat) : Int) := by unfold wrap64; omega
    have hw2 : wrap64 ((m : Int) + ((19 + l13[j].f1.f2.size : Nat) : Int)) = ((m + (19 + l13[j].f1.f2.size) : Nat) : Int) := by unfold wrap64; omega
    rw [hw1, hw2, hw, ih (j + 1) k _ (by omega) (by omega) (by omega), Nat.add_assoc m]
end
theorem empty_list : some ((⟨#[]⟩ : ByteArray).toList == ([] : List UInt8)) = some true := by kernel_rfl
theorem LetterSizes : conventiclelaw15_LetterSizes.Pure := by
  intro a0 a1 a2 a3 a4 l5 a6 a7 a8 a9 a10 a11 a12 l13 l14 a15 h0 h1 h2 h3 h4 h5 h6 h7 h8 h9 h10 h11 h12 h13 h14 h15
  refine ⟨l13.length + 50, ?_⟩
  unfold conventiclelaw15_LetterSizes.f
  rw [heavy_is a0 a1 a2 a3 a4 l5 a6 a7 a8 a9 a10 a11 a12 l13 l14 a15 h13.1 _ (by omega), Option.bind_some]
  by_cases hh : heavyB l5 l13 l14 = true
  · rw [if_pos hh, conventiclelaw15_LetterSizes.j0, if_pos rfl]
    rfl
  rw [if_neg hh]
  show (conventiclelaw15_LetterSizes.j0 (l13.length + 50) (!true) a0 a1 a2 a3 a4 l5 a6 a7 a8 a9 a10 a11 a12 l13 l14 a15) = some true
  rw [conventiclelaw15_LetterSizes.j0, if_neg (by decide)]
  have hok : okL a0 a1 a2 a3 a4 l5 a6 a7 a8 a9 a10 a11 a12 l13 l14 a15 = true := by
    simp only [okL, Bool.and_eq_true, List.all_eq_true]
    exact ⟨u64_wf h3, u64_wf h6, u64_wf h7, u64_wf h8, u64_wf h9, u64_wf h10, u64_wf h11, u64_wf h12, fun u hu => u64_wf (h5.2 u hu).2.1, fun p hp => ⟨u64_wf (h13.2 p hp).1, u64_wf (h13.2 p hp).2.2.1⟩, fun x hx => ⟨u64_wf (h14.2 x hx).1, u64_wf (h14.2 x hx).2⟩⟩
  cases hm : mayL a0 a1 a2 a4 l5 l13 l14 a15
  · have : letter_Encode.f a0 a1 a2 a3 a4 l5 a6 a7 a8 a9 a10 a11 a12 l13 l14 a15 = some (⟨#[]⟩, 1) := by unfold letter_Encode.f; rw [if_pos hm]
    rw [this, Option.bind_some]
    dsimp only
    rw [if_neg (by decide)]
    exact empty_list
  · have hE : letter_Encode.f a0 a1 a2 a3 a4 l5 a6 a7 a8 a9 a10 a11 a12 l13 l14 a15 = some (sealS (strOfNums (encL a0 a1 a2 a3 a4 l5 a6 a7 a8 a9 a10 a11 a12 l13 l14 a15)), 0) := by unfold letter_Encode.f; rw [if_neg (by rw [hm]; decide), if_pos hok]
    have HF := fine a0 a1 a2 a3 a4 l5 a6 a7 a8 a9 a10 a11 a12 l13 l14 a15 hm hok
    rw [hE, Option.bind_some]
    dsimp only
    rw [if_pos rfl]
    have n5 := HF.n5
    have n13 := HF.n13
    have n14 := HF.n14
    obtain ⟨x, hx⟩ : ∃ x : Int, (l5.length : Int) = x := ⟨_, rfl⟩
    obtain ⟨y, hy⟩ : ∃ y : Int, (l14.length : Int) = y := ⟨_, rfl⟩
    rw [hx, hy]
    have bx : 0 ≤ x ∧ x ≤ 8 := by omega
    have bY : 0 ≤ y ∧ y ≤ 16 := by omega
    have h64 : ∀ p ∈ l13, p.f1.f2.size ≤ 64 := fun p hp => by have := (HF.u13 p hp).2.2.2; omega
    have ih := sizes_l0 a0 a1 a2 a3 a4 l5 a6 a7 a8 a9 a10 a11 a12 l13 l14 a15 n13 h64 (sealS (strOfNums (encL a0 a1 a2 a3 a4 l5 a6 a7 a8 a9 a10 a11 a12 l13 l14 a15))) l13.length 0 (l13.length + 49) (83 + 10 * l5.length + 16 * l14.length) (by omega) (by omega) (by omega)
    rw [sealS_size, strOfNums_size, len_encL, List.drop_zero] at ih
    have e9 : ((83 + 10 * l5.length + 16 * l14.length : Nat) : Int) = 83 + 10 * x + 16 * y := by omega
    rw [e9] at ih
    have r : (((79 + 10 * l5.length + sumP l13 + 16 * l14.length + 4 : Nat) : Int) == ((83 + 10 * l5.length + 16 * l14.length + sumP l13 : Nat) : Int)) = true := by rw [beq_iff_eq]; omega
    rw [r] at ih
    clear r hE HF h64 e9 hok hm
    have e1 : wrap64 (10 * x) = 10 * x := Go.Proofs.YtondgoabnmgcaaaG.Pure.wrap_is _ (by omega)
    have e2 : wrap64 (13 + 10 * x) = 13 + 10 * x := Go.Proofs.YtondgoabnmgcaaaG.Pure.wrap_is _ (by omega)
    have e3 : wrap64 (13 + 10 * x + 56) = 69 + 10 * x := (Go.Proofs.YtondgoabnmgcaaaG.Pure.wrap_is _ (by omega)).trans (by omega)
    have e4 : wrap64 (69 + 10 * x + 1) = 70 + 10 * x := (Go.Proofs.YtondgoabnmgcaaaG.Pure.wrap_is _ (by omega)).trans (by omega)
    have e5 : wrap64 (70 + 10 * x + 1) = 71 + 10 * x := (Go.Proofs.YtondgoabnmgcaaaG.Pure.wrap_is _ (by omega)).trans (by omega)
    have e6 : wrap64 (16 * y) = 16 * y := Go.Proofs.YtondgoabnmgcaaaG.Pure.wrap_is _ (by omega)
    have e7 : wrap64 (71 + 10 * x + 16 * y) = 71 + 10 * x + 16 * y := Go.Proofs.YtondgoabnmgcaaaG.Pure.wrap_is _ (by omega)
    have e8 : wrap64 (71 + 10 * x + 16 * y + 8) = 79 + 10 * x + 16 * y := (Go.Proofs.YtondgoabnmgcaaaG.Pure.wrap_is _ (by omega)).trans (by omega)
    have e10 : wrap64 (79 + 10 * x + 16 * y + 4) = 83 + 10 * x + 16 * y := (Go.Proofs.YtondgoabnmgcaaaG.Pure.wrap_is _ (by omega)).trans (by omega)
    rw [e1, e2, e3, e4, e5, e6, e7, e8, e10]
    exact ih
end Go.Proofs.Ytondgoabnmgcaaa.Pure
end
