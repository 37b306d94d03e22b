/- Texts of this claim, one behind the other (joined by pack.py): Door Decode Shown LawMayW LawMay LawMayR. -/
import Derived.Test.YtondgoabnmgcaaaKLetterMay16
import Derived.Test.YtondgoabnmgcaaaKLetterMay11
import Derived.Tactics2
import Derived.Defers
import Derived.Recover
import Derived.Laws.Pointers
import Derived.Laws.CopyOwn
import Derived.Test.YtondgoabnmgcaaaKLetterMay7
import Derived.Test.YtondgoabnmgcaaaKLetterMay15
import Derived.Test.YtondgoabnmgcaaaKLetterMay10
section
/- By hand: where letter.Decode stands, its deferred closure, and its ways out. -/
namespace Go.Proofs.Ytondgoabnmgcaaa.B
open Go.RowKit Go.Proofs.YtondgoabnmgcaaaW.PrintWords Go.Proofs.YtondgoabnmgcaaaW.PrintLast Go.Proofs.YtondgoabnmgcaaaW.PrintMore
open Go.Proofs.YtondgoabnmgcaaaO.B (IsS63)
open Go.Proofs.YtondgoabnmgcaaaO.R (rdv rdv_range rbits)
set_option linter.unusedSimpArgs false
set_option linter.unusedVariables false
abbrev zeroL : Array Value := #[.int .i64 0, .int .i64 0, .int .i64 0, .int .u64 0, .int .i64 0, .slice none 0 0, .int .u64 0, .int .u64 0, .int .u64 0, .int .u64 0, .int .u64 0, .int .u64 0, .int .u64 0, .slice none 0 0, .slice none 0 0, .float .f64 0]
theorem sizeL : (Try.prog.info? 32).map (·.size) = some zeroL.size := by kernel_rfl
theorem oneL : zeroL.all (·.oneCell') = true := by kernel_rfl
theorem catch_idle (p q : Addr) (w : World) :
    CallsD Try.prog 23 #[.pointer (some p), .pointer (some q)] .returning w fun e u' w' => e = .returned (.tuple #[]) ∧ u' = .returning ∧ w' = w := by
  refine callsD_of_wpS Try.func23 rfl fun c₀ cs hu => ?_
  apply wpS_seq
  apply wpS_region
  simp [wpOpsS, go_sem, recoverD, hu, Try.ntmps23, Exit.thenS]
  refine wpS_of_wp ?_
  go_wp2
  cases c₀
  simp_all [bodyPostS, results, Try.results23]
set_option maxRecDepth 100000 in
set_option maxHeartbeats 1000000 in
theorem catch_panic (g2 g3 : Nat) (er : Int) (cs : Array Value) (w : World) (hn : g2 ≠ g3) (h2 : w.heap[g2]? = some (.cells cs 32 (0, 0))) (hsz : cs.size = 16) (h3 : w.heap[g3]? = some (.cells #[.int .i64 0] 33 (0, 0))) :
    CallsD Try.prog 23 #[.pointer (some ⟨g2, 0, none⟩), .pointer (some ⟨g3, 0, none⟩)] (.panicking [{ v := .iface 33 (.int .i64 er), recovered := false }]) w fun e u' w' =>
      e = .returned (.tuple #[]) ∧ u' = .panicking [{ v := .iface 33 (.int .i64 er), recovered := true }] ∧ w' = (w.setRow g2 zeroL).setCell ⟨g3, 0, none⟩ (.int .i64 er) := by
  have hta : (Instr.typeAssert (.iface 33 (.int .i64 er)) 20 33 true).run Try.prog w = .ok (.tuple #[.int .i64 er, .bool true]) w := by
    first | kernel_rfl | rfl
  have K2 := Aside0.mk h2
  have K3 : (w.setRow g2 zeroL).heap[g3]? = some (.cells #[.int .i64 0] 33 (0, 0)) := (setRow_other w g2 g3 zeroL (Ne.symm hn)).trans h3
  have c3 := blk_cell K3 0
  have f3 := blk_frozen K3 0
  have hz : cs.size = (zeroL).size := by rw [hsz]; rfl
  have HZ := Aside0.mk hz
  clear h2 h3 K3 hn hsz hz
  refine callsD_of_wpS Try.func23 rfl fun c₀ cs' hu => ?_
  apply wpS_seq
  apply wpS_region
  simp [wpOpsS, go_sem, recoverD, hu, Try.ntmps23, Exit.thenS]
  refine wpS_of_wp ?_
  simp only [Array.replicate_succ, Array.replicate_zero, List.push_toArray, List.append_toArray, List.nil_append, List.cons_append, List.setIfInBounds_toArray, List.set_cons_zero, List.set_cons_succ]
  go_wp2_with ((with_reducible refine gate_store (t := 32) (p := 0) rfl ?_); go_loud (refine wpList_store_row rfl 32 (.tmp 0) (.tmp 11) rfl g2 zeroL rfl rfl 32 cs K2.out sizeL HZ.out oneL ?_))
  cases c₀
  simp_all [bodyPostS, results, Try.results23]
/-- where Decode stands: the reader, the letter, the error, the box of the reader; the rows of the letter -/
structure De (w0 W : World) (g g2 g3 g4 : Nat) (s : ByteArray) (q : Int) (cs : Array Value) (v5 v13 v14 : Value) (l5 : List S70) (l13 : List S53) (l14 : List S77) : Prop where
  I : IsS63 w0 W g s q
  B : Below w0.heap.size w0 W
  K2 : W.heap[g2]? = some (.cells cs 32 (0, 0))
  K3 : W.heap[g3]? = some (.cells #[.int .i64 0] 33 (0, 0))
  K4 : W.heap[g4]? = some (.cells #[.pointer (some ⟨g, 0, none⟩)] 65 (0, 0))
  n2 : g2 ≠ g
  n3 : g3 ≠ g
  n4 : g4 ≠ g
  n23 : g2 ≠ g3
  n24 : g2 ≠ g4
  l2 : w0.heap.size ≤ g2
  l3 : w0.heap.size ≤ g3
  sz : cs.size = 16
  R5 : Kd.R k70 70 W w0.heap.size (fun _ => True) v5 l5
  R13 : Kd.R k53 53 W w0.heap.size (fun _ => True) v13 l13
  R14 : Kd.R k77 77 W w0.heap.size (fun _ => True) v14 l14
section
variable {w0 W : World} {g g2 g3 g4 : Nat} {s : ByteArray} {q : Int} {cs : Array Value} {v5 v13 v14 : Value} {l5 : List S70} {l13 : List S53} {l14 : List S77}
theorem De.c2 (S : De w0 W g g2 g3 g4 s q cs v5 v13 v14 l5 l13 l14) (j : Nat) : W.cell? ⟨g2, j, none⟩ = cs[j]? := blk_cell S.K2 j
theorem De.f2 (S : De w0 W g g2 g3 g4 s q cs v5 v13 v14 l5 l13 l14) (j : Nat) : W.frozen? ⟨g2, j, none⟩ = false := blk_frozen S.K2 j
theorem De.call {W' : World} {q' : Int} (S : De w0 W g g2 g3 g4 s q cs v5 v13 v14 l5 l13 l14) (hI : IsS63 w0 W' g s q') (hB : Below w0.heap.size w0 W') (hK : KeepBut W W' g none) : De w0 W' g g2 g3 g4 s q' cs v5 v13 v14 l5 l13 l14 :=
  ⟨hI, hB, hK.blk S.K2 S.n2 (by simp), hK.blk S.K3 S.n3 (by simp), hK.blk S.K4 S.n4 (by simp), S.n2, S.n3, S.n4, S.n23, S.n24, S.l2, S.l3, S.sz,
    Kd.R_mono (Kd.R_keep (Kd.R_types S.R5 S.I.1 (by decide)) hK (fun _ h => h.2)) (fun _ _ => trivial), Kd.R_mono (Kd.R_keep (Kd.R_types S.R13 S.I.1 (by decide)) hK (fun _ h => h.2)) (fun _ _ => trivial), Kd.R_mono (Kd.R_keep (Kd.R_types S.R14 S.I.1 (by decide)) hK (fun _ h => h.2)) (fun _ _ => trivial)⟩
theorem De.put (S : De w0 W g g2 g3 g4 s q cs v5 v13 v14 l5 l13 l14) (j : Nat) (v : Value) : De w0 (W.setCell ⟨g2, j, none⟩ v) g g2 g3 g4 s q (cs.setIfInBounds j v) v5 v13 v14 l5 l13 l14 :=
  ⟨S.I.far (Ne.symm S.n2) v, below_set S.B S.l2, blk_put S.K2 j v rfl, blk_far (p := ⟨g2, j, none⟩) S.K3 (Ne.symm S.n23) v, blk_far (p := ⟨g2, j, none⟩) S.K4 (Ne.symm S.n24) v, S.n2, S.n3, S.n4, S.n23, S.n24, S.l2, S.l3, by rw [Array.size_setIfInBounds]; exact S.sz,
    Kd.R_mono (Kd.R_far (p := ⟨g2, j, none⟩) (Kd.R_types S.R5 S.K2 (by decide)) (fun _ h => h.2) v) (fun _ _ => trivial), Kd.R_mono (Kd.R_far (p := ⟨g2, j, none⟩) (Kd.R_types S.R13 S.K2 (by decide)) (fun _ h => h.2) v) (fun _ _ => trivial), Kd.R_mono (Kd.R_far (p := ⟨g2, j, none⟩) (Kd.R_types S.R14 S.K2 (by decide)) (fun _ h => h.2) v) (fun _ _ => trivial)⟩
theorem De.row5 (S : De w0 W g g2 g3 g4 s q cs v5 v13 v14 l5 l13 l14) {v : Value} {l : List S70} (h : Kd.R k70 70 W w0.heap.size (fun _ => True) v l) : De w0 W g g2 g3 g4 s q cs v v13 v14 l l13 l14 := ⟨S.I, S.B, S.K2, S.K3, S.K4, S.n2, S.n3, S.n4, S.n23, S.n24, S.l2, S.l3, S.sz, h, S.R13, S.R14⟩
theorem De.row13 (S : De w0 W g g2 g3 g4 s q cs v5 v13 v14 l5 l13 l14) {v : Value} {l : List S53} (h : Kd.R k53 53 W w0.heap.size (fun _ => True) v l) : De w0 W g g2 g3 g4 s q cs v5 v v14 l5 l l14 := ⟨S.I, S.B, S.K2, S.K3, S.K4, S.n2, S.n3, S.n4, S.n23, S.n24, S.l2, S.l3, S.sz, S.R5, h, S.R14⟩
theorem De.row14 (S : De w0 W g g2 g3 g4 s q cs v5 v13 v14 l5 l13 l14) {v : Value} {l : List S77} (h : Kd.R k77 77 W w0.heap.size (fun _ => True) v l) : De w0 W g g2 g3 g4 s q cs v5 v13 v l5 l13 l := ⟨S.I, S.B, S.K2, S.K3, S.K4, S.n2, S.n3, S.n4, S.n23, S.n24, S.l2, S.l3, S.sz, S.R5, S.R13, h⟩
end
/-- a letter, as Decode hands it back -/
def cellsL (x : S32) (v5 v13 v14 : Value) : Array Value := #[.int .i64 x.f0, .int .i64 x.f1, .int .i64 x.f2, .int .u64 x.f3, .int .i64 x.f4, v5, .int .u64 x.f6.f0, .int .u64 x.f6.f1, .int .u64 x.f7, .int .u64 x.f8, .int .u64 x.f9.f0, .int .u64 x.f9.f1, .int .u64 x.f10, v13, v14, .float .f64 x.f13]
def DPost (D : Except Int S32) (w0 : World) (e : Ending) (w' : World) : Prop :=
  Below w0.heap.size w0 w' ∧ match D with
  | .error er => e = .returned (.tuple #[.agg zeroL, .int .i64 er])
  | .ok x => ∃ v5 v13 v14, e = .returned (.tuple #[.agg (cellsL x v5 v13 v14), .int .i64 0]) ∧ Kd.R k70 70 w' w0.heap.size (fun _ => True) v5 x.f5 ∧ Kd.R k53 53 w' w0.heap.size (fun _ => True) v13 x.f11 ∧ Kd.R k77 77 w' w0.heap.size (fun _ => True) v14 x.f12
theorem results_dc {P : Program} {fn : Func} {p u : Tmp} {ty ty' : TypeId} {k : IntKind} {d : TypeDesc} (h : fn.results = #[.cell p ty, .cell u ty']) (tmps : Array Value) (w : World) (g g' : Nat) (cs : Array Value) (fr : Nat × Nat) (v' : Value)
    (hp : tmps.getD p undef = .pointer (some ⟨g, 0, none⟩)) (hq : tmps.getD u undef = .pointer (some ⟨g', 0, none⟩)) (hg : w.heap[g]? = some (.cells cs ty fr)) (hc' : w.cell? ⟨g', 0, none⟩ = some v')
    (hu : P.underlying ty = some d) (hd : (match d with | .struct _ | .array _ _ => true | _ => false) = true) (hi : (P.info? ty).map (·.size) = some cs.size) (hu' : P.underlying ty' = some (.int k)) :
    (results fn tmps).run P w = .ok (.tuple #[.agg cs, v']) w := by
  have hp' : tmps[p]?.getD undef = .pointer (some ⟨g, 0, none⟩) := by simpa using hp
  have hq' : tmps[u]?.getD undef = .pointer (some ⟨g', 0, none⟩) := by simpa using hq
  have h1 := run_loadVar_row (P := P) w g ty ty cs fr d hg hu hd hi
  have h2 : (loadVar ty' ⟨g', 0, none⟩).run P w = .ok v' w := by simp [loadVar, isAgg, run_underlying hu', hc']
  simp [results, h, hp', hq', asAddr, h1, h2]
/-- the way out behind a panic with an error, wherever -/
theorem door_bad (w0 W : World) (g2 g3 : Nat) (cs : Array Value) (D : Except Int S32) (er : Int) (T : Array Value) (hn : g2 ≠ g3) (hsz : cs.size = 16) (h2 : W.heap[g2]? = some (.cells cs 32 (0, 0))) (h3 : W.heap[g3]? = some (.cells #[.int .i64 0] 33 (0, 0)))
    (l2 : w0.heap.size ≤ g2) (l3 : w0.heap.size ≤ g3) (hB : Below w0.heap.size w0 W) (hD : D = .error er) (t2 : T.getD 2 undef = .pointer (some ⟨g2, 0, none⟩)) (t3 : T.getD 3 undef = .pointer (some ⟨g3, 0, none⟩)) :
    bodyPostD Try.prog Try.f10 (DPost D w0) (Exit.panic [{ v := .iface 33 (.int .i64 er), recovered := false }])
      { tmps := T, defers := [{ target := .fn (.func 23) #[.pointer (some ⟨g2, 0, none⟩), .pointer (some ⟨g3, 0, none⟩)], args := #[] }] } W := by
  refine leaves_cons (f := 23) (args := #[.pointer (some ⟨g2, 0, none⟩), .pointer (some ⟨g3, 0, none⟩)]) (by simp) (by simp [go_sem]) ?_
  refine (catch_panic g2 g3 er cs W hn h2 hsz h3).mono ?_
  rintro e u' w'' ⟨rfl, rfl, rfl⟩
  have R2 := setRow_heap W g2 cs zeroL 32 (0, 0) h2
  have R3 := (setRow_other W g2 g3 zeroL (Ne.symm hn)).trans h3
  have P2 := blk_far (p := ⟨g3, 0, none⟩) R2 hn (.int .i64 er)
  have P3 := blk_put R3 0 (.int .i64 er) rfl
  refine ⟨_, results_dc (by kernel_rfl) _ _ g2 g3 zeroL (0, 0) (.int .i64 er) t2 t3 P2 (blk_cell P3 0) Try.underlying32 rfl sizeL Try.underlying33, ?_⟩
  subst hD
  exact ⟨below_set (below_setRow hB l2 zeroL) l3, rfl⟩
/-- the way out where all went well -/
theorem door_ok (w0 W : World) (g2 g3 : Nat) (x : S32) (v5 v13 v14 : Value) (D : Except Int S32) (T : Array Value) (h2 : W.heap[g2]? = some (.cells (cellsL x v5 v13 v14) 32 (0, 0))) (h3 : W.heap[g3]? = some (.cells #[.int .i64 0] 33 (0, 0)))
    (hB : Below w0.heap.size w0 W) (hD : D = .ok x) (r5 : Kd.R k70 70 W w0.heap.size (fun _ => True) v5 x.f5) (r13 : Kd.R k53 53 W w0.heap.size (fun _ => True) v13 x.f11) (r14 : Kd.R k77 77 W w0.heap.size (fun _ => True) v14 x.f12)
    (t2 : T.getD 2 undef = .pointer (some ⟨g2, 0, none⟩)) (t3 : T.getD 3 undef = .pointer (some ⟨g3, 0, none⟩)) :
    bodyPostD Try.prog Try.f10 (DPost D w0) Exit.ret
      { tmps := T, defers := [{ target := .fn (.func 23) #[.pointer (some ⟨g2, 0, none⟩), .pointer (some ⟨g3, 0, none⟩)], args := #[] }] } W := by
  refine leaves_cons (f := 23) (args := #[.pointer (some ⟨g2, 0, none⟩), .pointer (some ⟨g3, 0, none⟩)]) (by simp) (by simp [go_sem]) ?_
  refine (catch_idle ⟨g2, 0, none⟩ ⟨g3, 0, none⟩ W).mono ?_
  rintro e u' w'' ⟨rfl, rfl, rfl⟩
  refine ⟨_, results_dc (by kernel_rfl) _ _ g2 g3 (cellsL x v5 v13 v14) (0, 0) (.int .i64 0) t2 t3 h2 (blk_cell h3 0) Try.underlying32 rfl (by kernel_rfl) Try.underlying33, ?_⟩
  subst hD
  exact ⟨hB, v5, v13, v14, rfl, r5, r13, r14⟩
end Go.Proofs.Ytondgoabnmgcaaa.B
end
section
/- By hand: letter.Decode (printed by decode.py). -/
namespace Go.Proofs.Ytondgoabnmgcaaa.B
open Go.RowKit Go.Proofs.YtondgoabnmgcaaaW.PrintWords Go.Proofs.YtondgoabnmgcaaaW.PrintLast Go.Proofs.YtondgoabnmgcaaaW.PrintMore
open Go.Proofs.YtondgoabnmgcaaaO.B (IsS63)
open Go.Proofs.YtondgoabnmgcaaaO.R (rdv rdv_range rbits Ours real_ours num_ok num_short)
set_option linter.unusedSimpArgs false
set_option linter.unusedVariables false
/-! what bytes are which letter, step by step -/
def loadF (s : ByteArray) (p : Nat) : Nat := (rbits (rdv s p 8).toNat).toNat
def letterOf (s : ByteArray) (l5 : List S70) (q : Nat) (l13 : List S53) (l14 : List S77) (q3 : Nat) : S32 :=
  ⟨rdv s 0 1, rdv s 1 1, rdv s 2 1, rdv s 3 8, rdv s 11 1, l5, ⟨rdv s q 8, rdv s (q + 8) 8⟩, rdv s (q + 16) 8, rdv s (q + 24) 8, ⟨rdv s (q + 32) 8, rdv s (q + 32 + 8) 8⟩, rdv s (q + 48) 8, l13, l14, loadF s q3⟩
def d16 (s : ByteArray) (l5 : List S70) (q : Nat) (l13 : List S53) (l14 : List S77) (q3 : Nat) : Except Int S32 :=
  if mayL (rdv s 0 1) (rdv s 1 1) (rdv s 2 1) (rdv s 11 1) l5 l13 l14 (loadF s q3) = false then .error 1 else .ok (letterOf s l5 q l13 l14 q3)
def d15 (s : ByteArray) (l5 : List S70) (q : Nat) (l13 : List S53) (l14 : List S77) (q3 : Nat) : Except Int S32 := if rdv s 0 1 < 1 ∨ 14 < rdv s 0 1 then .error 150 else d16 s l5 q l13 l14 q3
def d14 (s : ByteArray) (l5 : List S70) (q : Nat) (l13 : List S53) (l14 : List S77) (q3 : Nat) : Except Int S32 := if q3 + 8 < s.size then .error 11 else d15 s l5 q l13 l14 q3
def d13 (s : ByteArray) (l5 : List S70) (q : Nat) (l13 : List S53) (l14 : List S77) (q3 : Nat) : Except Int S32 := if s.size < q3 + 8 then .error 10 else d14 s l5 q l13 l14 q3
def d12 (s : ByteArray) (l5 : List S70) (q : Nat) (l13 : List S53) (q2 : Nat) : Except Int S32 := match listI s (itX s) 16 q2 with
  | .error e => .error e
  | .ok (l14, q3) => d13 s l5 q l13 l14 q3
def d11 (s : ByteArray) (l5 : List S70) (q : Nat) : Except Int S32 := match listI s (itP s) 6 (q + 56) with
  | .error e => .error e
  | .ok (l13, q2) => d12 s l5 q l13 q2
def d10 (s : ByteArray) (l5 : List S70) (q : Nat) : Except Int S32 := if s.size < q + 56 then .error 10 else d11 s l5 q
def d9 (s : ByteArray) (l5 : List S70) (q : Nat) : Except Int S32 := if s.size < q + 48 then .error 10 else d10 s l5 q
def d8 (s : ByteArray) (l5 : List S70) (q : Nat) : Except Int S32 := if s.size < q + 32 then .error 10 else d9 s l5 q
def d7 (s : ByteArray) (l5 : List S70) (q : Nat) : Except Int S32 := if s.size < q + 24 then .error 10 else d8 s l5 q
def d6 (s : ByteArray) (l5 : List S70) (q : Nat) : Except Int S32 := if s.size < q + 16 then .error 10 else d7 s l5 q
def d5 (s : ByteArray) : Except Int S32 := match listI s (itU s) 8 12 with
  | .error e => .error e
  | .ok (l5, q) => d6 s l5 q
def d4 (s : ByteArray) : Except Int S32 := if s.size < 12 then .error 10 else d5 s
def d3 (s : ByteArray) : Except Int S32 := if s.size < 11 then .error 10 else d4 s
def d2 (s : ByteArray) : Except Int S32 := if s.size < 3 then .error 10 else d3 s
def d1 (s : ByteArray) : Except Int S32 := if s.size < 2 then .error 10 else d2 s
def decP (s : ByteArray) : Except Int S32 := if s.size < 1 then .error 10 else d1 s
theorem except_or {ε α : Type} (x : Except ε α) : (∃ e, x = .error e) ∨ ∃ a, x = .ok a := by
  cases x with
  | error e => exact .inl ⟨e, rfl⟩
  | ok a => exact .inr ⟨a, rfl⟩
theorem view_bad (w0 w : World) (g : Nat) (s : ByteArray) (p : Nat) (hs : s.size < 4611686018427387904) (hp : p ≤ s.size) (h : s.size < p + 16) (hI : IsS63 w0 w g s p) (hB : Below w0.heap.size w0 w) :
    Calls Try.prog 31 #[.agg #[.pointer (some ⟨g, 0, none⟩)]] w fun e w' => e = bad 10 ∧ Below w0.heap.size w0 w' ∧ KeepBut w w' g none := by
  by_cases h1 : s.size < p + 8
  · exact view_bad0 w0 w g s p hs (by omega) h1 hI hB
  · exact view_bad1 w0 w g s p hs (by omega) h hI hB
theorem de_start {w w4 : World} {g g2 g3 g4 : Nat} {s : ByteArray} (I : IsS63 w w4 g s 0) (B : Below w.heap.size w w4) (K2 : w4.heap[g2]? = some (.cells zeroL 32 (0, 0))) (K3 : w4.heap[g3]? = some (.cells #[.int .i64 0] 33 (0, 0)))
    (K4 : w4.heap[g4]? = some (.cells #[.pointer none] 65 (0, 0))) (l2 : w.heap.size ≤ g2) (l3 : w.heap.size ≤ g3) (l4 : w.heap.size ≤ g4) (n23 : g2 ≠ g3) (n24 : g2 ≠ g4) (n34 : g3 ≠ g4) (n2 : g2 ≠ g) (n3 : g3 ≠ g) (n4 : g4 ≠ g) :
    De w (w4.setCell ⟨g4, 0, none⟩ (.pointer (some ⟨g, 0, none⟩))) g g2 g3 g4 s 0 zeroL (.slice none 0 0) (.slice none 0 0) (.slice none 0 0) [] [] [] :=
  ⟨I.far (Ne.symm n4) _, below_set B l4, blk_far (p := ⟨g4, 0, none⟩) K2 n24 _, blk_far (p := ⟨g4, 0, none⟩) K3 n34 _, blk_put K4 0 _ rfl, n2, n3, n4, n23, n24, l2, l3, rfl, Kd.R_nil _ _ _ _ _, Kd.R_nil _ _ _ _ _, Kd.R_nil _ _ _ _ _⟩
theorem real37_ok (w0 w : World) (g : Nat) (s : ByteArray) (p : Nat) (hs : s.size < 4611686018427387904) (h : p + 8 ≤ s.size) (hI : IsS63 w0 w g s p) (hB : Below w0.heap.size w0 w) :
    Calls Try.prog 37 #[.pointer (some ⟨g, 0, none⟩)] w fun e w' => e = .returned (.tuple #[.float .f64 (loadF s p), .int .i64 0]) ∧ IsS63 w0 w' g s ((p + 8 : Nat) : Int) ∧ Below w0.heap.size w0 w' ∧ KeepBut w w' g none := by
  have hn := num_ok s p 8 (by omega) (by omega) hs h
  have := real_ours w0 s p _ _ 0 10 hn g w hI hB
  exact this
theorem real37_bad (w0 w : World) (g : Nat) (s : ByteArray) (p : Nat) (hp : p ≤ s.size) (h : s.size < p + 8) (hI : IsS63 w0 w g s p) (hB : Below w0.heap.size w0 w) :
    Calls Try.prog 37 #[.pointer (some ⟨g, 0, none⟩)] w fun e w' => ∃ x, e = .returned (.tuple #[.float .f64 x, .int .i64 10]) ∧ Below w0.heap.size w0 w' ∧ KeepBut w w' g none := by
  have hn := num_short s p 8 (by omega) (by omega) hp h
  have := real_ours w0 s p _ _ 10 10 hn g w hI hB
  exact this.mono (fun e w' hh => ⟨_, hh.1, hh.2.2.1, hh.2.2.2⟩)
theorem end_more (w0 w : World) (g : Nat) (s : ByteArray) (p : Nat) (hs : s.size < 4611686018427387904) (h : p < s.size) (hI : IsS63 w0 w g s p) (hB : Below w0.heap.size w0 w) :
    Calls Try.prog 38 #[.pointer (some ⟨g, 0, none⟩)] w fun e w' => e = .returned (.int .i64 11) ∧ IsS63 w0 w' g s p ∧ Below w0.heap.size w0 w' ∧ KeepBut w w' g none := by
  refine Go.Proofs.YtondgoabnmgcaaaO.B.octet_Reader_End.calls g s p 11 s p w0 w hI hB ?_
  unfold Go.Proofs.YtondgoabnmgcaaaO.B.octet_Reader_End.f Go.Proofs.YtondgoabnmgcaaaO.B.octet_Reader_Left.f
  have : wrap64 ((s.size : Int) - p) = (s.size : Int) - p := by unfold wrap64; omega
  rw [this, Option.bind_some]
  exact if_pos (by show (s.size : Int) - p > 0; omega)
theorem end_done (w0 w : World) (g : Nat) (s : ByteArray) (p : Nat) (hs : s.size < 4611686018427387904) (h : p = s.size) (hI : IsS63 w0 w g s p) (hB : Below w0.heap.size w0 w) :
    Calls Try.prog 38 #[.pointer (some ⟨g, 0, none⟩)] w fun e w' => e = .returned (.int .i64 0) ∧ IsS63 w0 w' g s p ∧ Below w0.heap.size w0 w' ∧ KeepBut w w' g none := by
  refine Go.Proofs.YtondgoabnmgcaaaO.B.octet_Reader_End.calls g s p 0 s p w0 w hI hB ?_
  unfold Go.Proofs.YtondgoabnmgcaaaO.B.octet_Reader_End.f Go.Proofs.YtondgoabnmgcaaaO.B.octet_Reader_Left.f
  have : wrap64 ((s.size : Int) - p) = (s.size : Int) - p := by unfold wrap64; omega
  rw [this, Option.bind_some]
  exact if_neg (by show ¬ (s.size : Int) - p > 0; omega)
theorem row_step {w : World} {g : Nat} {cs : Array Value} {v : Value} {α : Type} {d : Kd α} {e base : Nat} {l : List α} (h : Kd.R d e w base (fun _ => True) v l) (hb : w.heap[g]? = some (.cells cs 32 (0, 0))) (ht : ∀ q, q ∈ e :: d.E → q ≠ 32) (cs' : Array Value) : Kd.R d e (w.setRow g cs') base (fun _ => True) v l :=
  Kd.R_mono (Kd.R_step (Kd.R_types h hb ht) (fun k hk _ => setRow_other w g k cs' hk.2)) (fun _ _ => trivial)
theorem De.below {w0 W W' : World} {g g2 g3 g4 : Nat} {s : ByteArray} {q : Int} {cs : Array Value} {v5 v13 v14 : Value} {l5 : List S70} {l13 : List S53} {l14 : List S77} (S : De w0 W g g2 g3 g4 s q cs v5 v13 v14 l5 l13 l14) (hb : Below W.heap.size W W') : De w0 W' g g2 g3 g4 s q cs v5 v13 v14 l5 l13 l14 :=
  S.call ⟨blk_below S.I.1 hb, S.I.2⟩ (below_step S.B hb) (KeepBut.of_below hb g none)
theorem run_store_float (P : Program) (w : World) (a : Addr) (m : Mode) (k : FloatKind) (n : Nat) : (store a (.float k n) m).run P w = stored P w a (.float k n) m := run_store P w a _ m rfl
attribute [local go_sem] run_store_float
theorem one_L (a0 a1 a2 a3 a4 : Int) (A5 : Option Addr) (n5 c5 : Nat) (a6 a7 a8 a9 a10 a11 a12 : Int) (A13 : Option Addr) (n13 c13 : Nat) (A14 : Option Addr) (n14 c14 : Nat) (a15 : Nat) :
    (#[.int .i64 a0, .int .i64 a1, .int .i64 a2, .int .u64 a3, .int .i64 a4, .slice A5 n5 c5, .int .u64 a6, .int .u64 a7, .int .u64 a8, .int .u64 a9, .int .u64 a10, .int .u64 a11, .int .u64 a12, .slice A13 n13 c13, .slice A14 n14 c14, .float .f64 a15] : Array Value).all (·.oneCell') = true := by kernel_rfl
set_option maxRecDepth 100000 in
set_option maxHeartbeats 4000000 in
theorem decode_walk (w : World) (t s : ByteArray) (hO : Go.Proofs.YtondgoabnmgcaaaG.B.guard_Open.f t = some (s, 0)) (hs : s.size < 4611686018427387904) : Calls Try.prog 10 #[.string t] w (DPost (decP s) w) := by
  have hmf : ∀ (fn : Fn) (first cap : Array Value) (w : World), (Instr.makeFunc fn first cap).run Try.prog w = .ok (.func fn first cap) w := fun _ _ _ _ => rfl
  have HO := Aside0.mk hO
  have size65 := size65
  have HS := Aside0.mk hs
  obtain ⟨D, hD⟩ : ∃ D, D = decP s := ⟨_, rfl⟩
  rw [← hD]
  have HD := Aside0.mk hD
  clear hD
  have HQ : Aside0 (0 ≤ s.size) := ⟨Nat.zero_le _⟩
  clear hO hs
  go_enter_defers Try.func10, Try.ntmps10
  go_wp2_with (first
    | ((with_reducible refine gate_dst (N := 2) rfl ?_); refine box_event ?hg (N := 2) ?hd (cs := #[.int .i64 0, .int .i64 0, .int .i64 0, .int .u64 0, .int .i64 0, .slice none 0 0, .int .u64 0, .int .u64 0, .int .u64 0, .int .u64 0, .int .u64 0, .int .u64 0, .int .u64 0, .slice none 0 0, .slice none 0 0, .float .f64 0]) (t := 32) ?hr ?_; (case hd => rfl); (case hg => rfl); (case hr => first | (go_simp; done) | (go_simp; rfl)); intro g2 hg_ w1 hb_ hB_; have K2 := Aside0.mk hb_; have B1 := Aside0.mk hB_; have L2 := Aside0.mk (Nat.le_of_eq hg_.symm); clear hg_ hb_ hB_)
    | ((with_reducible refine gate_dst (N := 3) rfl ?_); refine box_event ?hg (N := 3) ?hd (cs := #[.int .i64 0]) (t := 33) ?hr ?_; (case hd => rfl); (case hg => rfl); (case hr => first | (go_simp; done) | (go_simp; rfl)); intro g3 hg_ w2 hb_ hB_; have K3 := Aside0.mk hb_; have K2b := Aside0.mk (blk_below K2.out hB_); have L3 := Aside0.mk (show w.heap.size ≤ g3 by have := B1.out.size; omega); have N23 := Aside0.mk (show g2 ≠ g3 by have := blk_lt K2.out; omega); have B2 := Aside0.mk (below_step B1.out hB_); clear hg_ hb_ hB_ K2 B1)
    | (go_at_call 26; refine (Go.Proofs.YtondgoabnmgcaaaG.B.guard_Open.calls t s 0 _ HO.out).mono ?_; rintro e w3 ⟨rfl, hb⟩; have K2c := Aside0.mk (blk_below K2b.out hb); have K3c := Aside0.mk (blk_below K3.out hb); have B3 := Aside0.mk (below_step B2.out hb); clear hb K2b K3 B2)
    | (go_at_call 25; refine (must_str_ok s _).mono ?_; rintro e w4 ⟨rfl, rfl⟩)
    | (go_at_call 24; refine (Go.Proofs.YtondgoabnmgcaaaO.B.octet_New.calls s s 0 w _ B3.out rfl).mono ?_; rintro e w5 ⟨g, rfl, hi, hb, hb2⟩; have I5 := Aside0.mk hi; have K2d := Aside0.mk (blk_below K2c.out hb2); have K3d := Aside0.mk (blk_below K3c.out hb2); have N2 := Aside0.mk (show g2 ≠ g from fun e => by subst e; have := K2d.out.symm.trans hi.1; injection this with this; injection this with _ this; exact absurd this (by decide)); have N3 := Aside0.mk (show g3 ≠ g from fun e => by subst e; have := K3d.out.symm.trans hi.1; injection this with this; injection this with _ this; exact absurd this (by decide)); have B5 := Aside0.mk hb; clear hi hb hb2 K2c K3c B3)
    | ((with_reducible refine gate_dst (N := 4) rfl ?_); refine box_event ?hg (N := 4) ?hd (cs := #[.pointer none]) (t := 65) ?hr ?_; (case hd => rfl); (case hg => rfl); (case hr => first | (go_simp; done) | (go_simp; rfl)); intro g4 hg_ w6 hb_ hB_; have I6 := Aside0.mk (show IsS63 w w6 g s 0 from ⟨blk_below I5.out.1 hB_, I5.out.2⟩); have B6 := Aside0.mk (below_step B5.out hB_); have K2e := Aside0.mk (blk_below K2d.out hB_); have K3e := Aside0.mk (blk_below K3d.out hB_); have N4 := Aside0.mk (show g2 ≠ g4 ∧ g3 ≠ g4 ∧ g4 ≠ g ∧ w.heap.size ≤ g4 from ⟨by have := blk_lt K2d.out; omega, by have := blk_lt K3d.out; omega, by have := blk_lt I5.out.1; omega, by have := B5.out.size; omega⟩); have z := blk_cell hb_ 0; have zf := blk_frozen hb_ 0; have S0 := Aside0.mk (de_start I6.out B6.out K2e.out K3e.out hb_ L2.out L3.out N4.out.2.2.2 N23.out N4.out.1 N4.out.2.1 N2.out N3.out N4.out.2.2.1); clear hg_ hb_ hB_ I5 B5 K2d K3d)
    | (refine wpList_load_row rfl 65 (.tmp 4) rfl g4 rfl 65 #[.pointer (some ⟨g, 0, none⟩)] (0, 0) _ (S0.out).K4 Try.underlying65 rfl size65 ?_; have T0 : Aside0 (De w _ g g2 g3 g4 s _ #[.int .i64 0, .int .i64 0, .int .i64 0, .int .u64 0, .int .i64 0, .slice none 0 0, .int .u64 0, .int .u64 0, .int .u64 0, .int .u64 0, .int .u64 0, .int .u64 0, .int .u64 0, .slice none 0 0, .slice none 0 0, .float .f64 0] _ _ _ _ _ _) := ⟨S0.out⟩; generalize World.setCell _ _ _ = wa0 at T0 ⊢; (try clear z); (try clear zf); clear S0)
    | (go_at_call 27; refine Classical.byCases (p := s.size < 1) (fun hN => by (refine (small_bad w _ g s 0 (by have := HQ.out; omega) (by omega) T0.out.I T0.out.B).mono ?_; rintro e w' ⟨rfl, hb, hk⟩; exact door_bad w _ g2 g3 _ D 10 _ N23.out T0.out.sz (hk.blk T0.out.K2 T0.out.n2 (by simp)) (hk.blk T0.out.K3 T0.out.n3 (by simp)) L2.out L3.out hb (by rw [HD.out]; exact if_pos hN) rfl rfl)) (fun hN => ?_); have HE : Aside0 (D = d1 s) := ⟨by rw [HD.out]; exact if_neg hN⟩; have HR : Aside0 (1 ≤ s.size) := ⟨by omega⟩; clear HD HQ hN; have HD := HE; have HQ := HR; clear HE HR; refine (small_ok w _ g s 0 HS.out (by have := HQ.out; omega) T0.out.I T0.out.B).mono ?_; rintro e wb0 ⟨rfl, hi, hb, hk⟩; have S1 := Aside0.mk (T0.out.call hi hb hk); have z := S1.out.c2 0; have zf := S1.out.f2 0; clear hi hb hk T0)
    | (refine wpList_load_row rfl 65 (.tmp 4) rfl g4 rfl 65 #[.pointer (some ⟨g, 0, none⟩)] (0, 0) _ (S1.out.put 0 (.int .i64 (rdv s 0 1))).K4 Try.underlying65 rfl size65 ?_; have T1 : Aside0 (De w _ g g2 g3 g4 s _ #[.int .i64 (rdv s 0 1), .int .i64 0, .int .i64 0, .int .u64 0, .int .i64 0, .slice none 0 0, .int .u64 0, .int .u64 0, .int .u64 0, .int .u64 0, .int .u64 0, .int .u64 0, .int .u64 0, .slice none 0 0, .slice none 0 0, .float .f64 0] _ _ _ _ _ _) := ⟨S1.out.put 0 (.int .i64 (rdv s 0 1))⟩; generalize World.setCell _ _ _ = wa1 at T1 ⊢; (try clear z); (try clear zf); clear S1)
    | (go_at_call 27; refine Classical.byCases (p := s.size < 2) (fun hN => by (refine (small_bad w _ g s 1 (by have := HQ.out; omega) (by omega) T1.out.I T1.out.B).mono ?_; rintro e w' ⟨rfl, hb, hk⟩; exact door_bad w _ g2 g3 _ D 10 _ N23.out T1.out.sz (hk.blk T1.out.K2 T1.out.n2 (by simp)) (hk.blk T1.out.K3 T1.out.n3 (by simp)) L2.out L3.out hb (by rw [HD.out]; exact if_pos hN) rfl rfl)) (fun hN => ?_); have HE : Aside0 (D = d2 s) := ⟨by rw [HD.out]; exact if_neg hN⟩; have HR : Aside0 (2 ≤ s.size) := ⟨by omega⟩; clear HD HQ hN; have HD := HE; have HQ := HR; clear HE HR; refine (small_ok w _ g s 1 HS.out (by have := HQ.out; omega) T1.out.I T1.out.B).mono ?_; rintro e wb1 ⟨rfl, hi, hb, hk⟩; have S2 := Aside0.mk (T1.out.call hi hb hk); have z := S2.out.c2 1; have zf := S2.out.f2 1; clear hi hb hk T1)
    | (refine wpList_load_row rfl 65 (.tmp 4) rfl g4 rfl 65 #[.pointer (some ⟨g, 0, none⟩)] (0, 0) _ (S2.out.put 1 (.int .i64 (rdv s 1 1))).K4 Try.underlying65 rfl size65 ?_; have T2 : Aside0 (De w _ g g2 g3 g4 s _ #[.int .i64 (rdv s 0 1), .int .i64 (rdv s 1 1), .int .i64 0, .int .u64 0, .int .i64 0, .slice none 0 0, .int .u64 0, .int .u64 0, .int .u64 0, .int .u64 0, .int .u64 0, .int .u64 0, .int .u64 0, .slice none 0 0, .slice none 0 0, .float .f64 0] _ _ _ _ _ _) := ⟨S2.out.put 1 (.int .i64 (rdv s 1 1))⟩; generalize World.setCell _ _ _ = wa2 at T2 ⊢; (try clear z); (try clear zf); clear S2)
    | (go_at_call 27; refine Classical.byCases (p := s.size < 3) (fun hN => by (refine (small_bad w _ g s 2 (by have := HQ.out; omega) (by omega) T2.out.I T2.out.B).mono ?_; rintro e w' ⟨rfl, hb, hk⟩; exact door_bad w _ g2 g3 _ D 10 _ N23.out T2.out.sz (hk.blk T2.out.K2 T2.out.n2 (by simp)) (hk.blk T2.out.K3 T2.out.n3 (by simp)) L2.out L3.out hb (by rw [HD.out]; exact if_pos hN) rfl rfl)) (fun hN => ?_); have HE : Aside0 (D = d3 s) := ⟨by rw [HD.out]; exact if_neg hN⟩; have HR : Aside0 (3 ≤ s.size) := ⟨by omega⟩; clear HD HQ hN; have HD := HE; have HQ := HR; clear HE HR; refine (small_ok w _ g s 2 HS.out (by have := HQ.out; omega) T2.out.I T2.out.B).mono ?_; rintro e wb2 ⟨rfl, hi, hb, hk⟩; have S3 := Aside0.mk (T2.out.call hi hb hk); have z := S3.out.c2 2; have zf := S3.out.f2 2; clear hi hb hk T2)
    | (refine wpList_load_row rfl 65 (.tmp 4) rfl g4 rfl 65 #[.pointer (some ⟨g, 0, none⟩)] (0, 0) _ (S3.out.put 2 (.int .i64 (rdv s 2 1))).K4 Try.underlying65 rfl size65 ?_; have T3 : Aside0 (De w _ g g2 g3 g4 s _ #[.int .i64 (rdv s 0 1), .int .i64 (rdv s 1 1), .int .i64 (rdv s 2 1), .int .u64 0, .int .i64 0, .slice none 0 0, .int .u64 0, .int .u64 0, .int .u64 0, .int .u64 0, .int .u64 0, .int .u64 0, .int .u64 0, .slice none 0 0, .slice none 0 0, .float .f64 0] _ _ _ _ _ _) := ⟨S3.out.put 2 (.int .i64 (rdv s 2 1))⟩; generalize World.setCell _ _ _ = wa3 at T3 ⊢; (try clear z); (try clear zf); clear S3)
    | (go_at_call 28; refine Classical.byCases (p := s.size < 11) (fun hN => by (refine (large_bad w _ g s 3 (by have := HQ.out; omega) (by omega) T3.out.I T3.out.B).mono ?_; rintro e w' ⟨rfl, hb, hk⟩; exact door_bad w _ g2 g3 _ D 10 _ N23.out T3.out.sz (hk.blk T3.out.K2 T3.out.n2 (by simp)) (hk.blk T3.out.K3 T3.out.n3 (by simp)) L2.out L3.out hb (by rw [HD.out]; exact if_pos hN) rfl rfl)) (fun hN => ?_); have HE : Aside0 (D = d4 s) := ⟨by rw [HD.out]; exact if_neg hN⟩; have HR : Aside0 (11 ≤ s.size) := ⟨by omega⟩; clear HD HQ hN; have HD := HE; have HQ := HR; clear HE HR; refine (large_ok w _ g s 3 HS.out (by have := HQ.out; omega) T3.out.I T3.out.B).mono ?_; rintro e wb3 ⟨rfl, hi, hb, hk⟩; have S4 := Aside0.mk (T3.out.call hi hb hk); have z := S4.out.c2 3; have zf := S4.out.f2 3; clear hi hb hk T3)
    | (refine wpList_load_row rfl 65 (.tmp 4) rfl g4 rfl 65 #[.pointer (some ⟨g, 0, none⟩)] (0, 0) _ (S4.out.put 3 (.int .u64 (rdv s 3 8))).K4 Try.underlying65 rfl size65 ?_; have T4 : Aside0 (De w _ g g2 g3 g4 s _ #[.int .i64 (rdv s 0 1), .int .i64 (rdv s 1 1), .int .i64 (rdv s 2 1), .int .u64 (rdv s 3 8), .int .i64 0, .slice none 0 0, .int .u64 0, .int .u64 0, .int .u64 0, .int .u64 0, .int .u64 0, .int .u64 0, .int .u64 0, .slice none 0 0, .slice none 0 0, .float .f64 0] _ _ _ _ _ _) := ⟨S4.out.put 3 (.int .u64 (rdv s 3 8))⟩; generalize World.setCell _ _ _ = wa4 at T4 ⊢; (try clear z); (try clear zf); clear S4)
    | (go_at_call 27; refine Classical.byCases (p := s.size < 12) (fun hN => by (refine (small_bad w _ g s 11 (by have := HQ.out; omega) (by omega) T4.out.I T4.out.B).mono ?_; rintro e w' ⟨rfl, hb, hk⟩; exact door_bad w _ g2 g3 _ D 10 _ N23.out T4.out.sz (hk.blk T4.out.K2 T4.out.n2 (by simp)) (hk.blk T4.out.K3 T4.out.n3 (by simp)) L2.out L3.out hb (by rw [HD.out]; exact if_pos hN) rfl rfl)) (fun hN => ?_); have HE : Aside0 (D = d5 s) := ⟨by rw [HD.out]; exact if_neg hN⟩; have HR : Aside0 (12 ≤ s.size) := ⟨by omega⟩; clear HD HQ hN; have HD := HE; have HQ := HR; clear HE HR; refine (small_ok w _ g s 11 HS.out (by have := HQ.out; omega) T4.out.I T4.out.B).mono ?_; rintro e wb4 ⟨rfl, hi, hb, hk⟩; have S5 := Aside0.mk (T4.out.call hi hb hk); have z := S5.out.c2 4; have zf := S5.out.f2 4; clear hi hb hk T4)
    | (refine wpList_load_row rfl 65 (.tmp 4) rfl g4 rfl 65 #[.pointer (some ⟨g, 0, none⟩)] (0, 0) _ (S5.out.put 4 (.int .i64 (rdv s 11 1))).K4 Try.underlying65 rfl size65 ?_; have T5 : Aside0 (De w _ g g2 g3 g4 s _ #[.int .i64 (rdv s 0 1), .int .i64 (rdv s 1 1), .int .i64 (rdv s 2 1), .int .u64 (rdv s 3 8), .int .i64 (rdv s 11 1), .slice none 0 0, .int .u64 0, .int .u64 0, .int .u64 0, .int .u64 0, .int .u64 0, .int .u64 0, .int .u64 0, .slice none 0 0, .slice none 0 0, .float .f64 0] _ _ _ _ _ _) := ⟨S5.out.put 4 (.int .i64 (rdv s 11 1))⟩; generalize World.setCell _ _ _ = wa5 at T5 ⊢; (try clear z); (try clear zf); clear S5)
    | (refine wpList_load_row rfl 65 (.tmp 4) rfl g4 rfl 65 #[.pointer (some ⟨g, 0, none⟩)] (0, 0) _ T5.out.K4 Try.underlying65 rfl size65 ?_)
    | (go_at_call 29; refine Or.elim (except_or (listI s (itU s) 8 12)) (fun hN => by (obtain ⟨er, hL⟩ := hN; refine (upd_list_bad w _ g s 12 8 (by have := HQ.out; omega) HS.out T5.out.I T5.out.B er hL).mono ?_; rintro e w' ⟨rfl, hb, hk⟩; exact door_bad w _ g2 g3 _ D er _ N23.out T5.out.sz (hk.blk T5.out.K2 T5.out.n2 (by simp)) (hk.blk T5.out.K3 T5.out.n3 (by simp)) L2.out L3.out hb (by rw [HD.out]; unfold d5; rw [hL]) rfl rfl)) (fun hN => ?_); obtain ⟨⟨l5, q⟩, hL⟩ := hN; have HE : Aside0 (D = d6 s l5 q) := ⟨by rw [HD.out]; unfold d5; rw [hL]⟩; have HL5 := Aside0.mk hL; clear hL HD; have HD := HE; clear HE; refine (upd_list_ok w _ g s 12 8 (by have := HQ.out; omega) HS.out T5.out.I T5.out.B l5 q HL5.out).mono ?_; rintro e wb5 ⟨v, rfl, ho, hi, hq, hb, hk⟩; obtain ⟨A5, c5, rfl⟩ := Kd.R_slice ho; have HR : Aside0 (q ≤ s.size) := ⟨hq⟩; clear HQ; have HQ := HR; clear HR; have S6 := Aside0.mk ((T5.out.call hi hb hk).row5 (Kd.R_mono (Kd.R_lower ho T5.out.B.size) (fun _ _ => trivial))); have z := S6.out.c2 5; have zf := S6.out.f2 5; clear hi hb hk ho hq T5)
    | (refine wpList_load_row rfl 65 (.tmp 4) rfl g4 rfl 65 #[.pointer (some ⟨g, 0, none⟩)] (0, 0) _ (S6.out.put 5 (.slice A5 l5.length c5)).K4 Try.underlying65 rfl size65 ?_; have T6 : Aside0 (De w _ g g2 g3 g4 s _ #[.int .i64 (rdv s 0 1), .int .i64 (rdv s 1 1), .int .i64 (rdv s 2 1), .int .u64 (rdv s 3 8), .int .i64 (rdv s 11 1), .slice A5 l5.length c5, .int .u64 0, .int .u64 0, .int .u64 0, .int .u64 0, .int .u64 0, .int .u64 0, .int .u64 0, .slice none 0 0, .slice none 0 0, .float .f64 0] _ _ _ _ _ _) := ⟨S6.out.put 5 (.slice A5 l5.length c5)⟩; generalize World.setCell _ _ _ = wa6 at T6 ⊢; (try clear z); (try clear zf); clear S6)
    | (go_at_call 31; refine Classical.byCases (p := s.size < q + 16) (fun hN => by (refine (view_bad w _ g s q HS.out (by have := HQ.out; omega) (by omega) T6.out.I T6.out.B).mono ?_; rintro e w' ⟨rfl, hb, hk⟩; exact door_bad w _ g2 g3 _ D 10 _ N23.out T6.out.sz (hk.blk T6.out.K2 T6.out.n2 (by simp)) (hk.blk T6.out.K3 T6.out.n3 (by simp)) L2.out L3.out hb (by rw [HD.out]; exact if_pos hN) rfl rfl)) (fun hN => ?_); have HE : Aside0 (D = d7 s l5 q) := ⟨by rw [HD.out]; exact if_neg hN⟩; have HR : Aside0 (q + 16 ≤ s.size) := ⟨by omega⟩; clear HD HQ hN; have HD := HE; have HQ := HR; clear HE HR; refine (view_ok w _ g s q HS.out (by have := HQ.out; omega) T6.out.I T6.out.B).mono ?_; rintro e wb6 ⟨rfl, hi, hb, hk⟩; have S7 := Aside0.mk (T6.out.call hi hb hk); have z := fun j => S7.out.c2 j; have zf := fun j => S7.out.f2 j; clear hi hb hk T6)
    | (refine wpList_load_row rfl 65 (.tmp 4) rfl g4 rfl 65 #[.pointer (some ⟨g, 0, none⟩)] (0, 0) _ ((S7.out.put 6 (.int .u64 (rdv s q 8))).put 7 (.int .u64 (rdv s (q + 8) 8))).K4 Try.underlying65 rfl size65 ?_; have T7 : Aside0 (De w _ g g2 g3 g4 s _ #[.int .i64 (rdv s 0 1), .int .i64 (rdv s 1 1), .int .i64 (rdv s 2 1), .int .u64 (rdv s 3 8), .int .i64 (rdv s 11 1), .slice A5 l5.length c5, .int .u64 (rdv s q 8), .int .u64 (rdv s (q + 8) 8), .int .u64 0, .int .u64 0, .int .u64 0, .int .u64 0, .int .u64 0, .slice none 0 0, .slice none 0 0, .float .f64 0] _ _ _ _ _ _) := ⟨(S7.out.put 6 (.int .u64 (rdv s q 8))).put 7 (.int .u64 (rdv s (q + 8) 8))⟩; generalize World.setCell _ _ _ = wa7 at T7 ⊢; (try clear z); (try clear zf); clear S7)
    | (go_at_call 28; refine Classical.byCases (p := s.size < q + 24) (fun hN => by (refine (large_bad w _ g s (q + 16) (by have := HQ.out; omega) (by omega) T7.out.I T7.out.B).mono ?_; rintro e w' ⟨rfl, hb, hk⟩; exact door_bad w _ g2 g3 _ D 10 _ N23.out T7.out.sz (hk.blk T7.out.K2 T7.out.n2 (by simp)) (hk.blk T7.out.K3 T7.out.n3 (by simp)) L2.out L3.out hb (by rw [HD.out]; exact if_pos hN) rfl rfl)) (fun hN => ?_); have HE : Aside0 (D = d8 s l5 q) := ⟨by rw [HD.out]; exact if_neg hN⟩; have HR : Aside0 (q + 24 ≤ s.size) := ⟨by omega⟩; clear HD HQ hN; have HD := HE; have HQ := HR; clear HE HR; refine (large_ok w _ g s (q + 16) HS.out (by have := HQ.out; omega) T7.out.I T7.out.B).mono ?_; rintro e wb7 ⟨rfl, hi, hb, hk⟩; have S8 := Aside0.mk (T7.out.call hi hb hk); have z := S8.out.c2 8; have zf := S8.out.f2 8; clear hi hb hk T7)
    | (refine wpList_load_row rfl 65 (.tmp 4) rfl g4 rfl 65 #[.pointer (some ⟨g, 0, none⟩)] (0, 0) _ (S8.out.put 8 (.int .u64 (rdv s (q + 16) 8))).K4 Try.underlying65 rfl size65 ?_; have T8 : Aside0 (De w _ g g2 g3 g4 s _ #[.int .i64 (rdv s 0 1), .int .i64 (rdv s 1 1), .int .i64 (rdv s 2 1), .int .u64 (rdv s 3 8), .int .i64 (rdv s 11 1), .slice A5 l5.length c5, .int .u64 (rdv s q 8), .int .u64 (rdv s (q + 8) 8), .int .u64 (rdv s (q + 16) 8), .int .u64 0, .int .u64 0, .int .u64 0, .int .u64 0, .slice none 0 0, .slice none 0 0, .float .f64 0] _ _ _ _ _ _) := ⟨S8.out.put 8 (.int .u64 (rdv s (q + 16) 8))⟩; generalize World.setCell _ _ _ = wa8 at T8 ⊢; (try clear z); (try clear zf); clear S8)
    | (go_at_call 28; refine Classical.byCases (p := s.size < q + 32) (fun hN => by (refine (large_bad w _ g s (q + 24) (by have := HQ.out; omega) (by omega) T8.out.I T8.out.B).mono ?_; rintro e w' ⟨rfl, hb, hk⟩; exact door_bad w _ g2 g3 _ D 10 _ N23.out T8.out.sz (hk.blk T8.out.K2 T8.out.n2 (by simp)) (hk.blk T8.out.K3 T8.out.n3 (by simp)) L2.out L3.out hb (by rw [HD.out]; exact if_pos hN) rfl rfl)) (fun hN => ?_); have HE : Aside0 (D = d9 s l5 q) := ⟨by rw [HD.out]; exact if_neg hN⟩; have HR : Aside0 (q + 32 ≤ s.size) := ⟨by omega⟩; clear HD HQ hN; have HD := HE; have HQ := HR; clear HE HR; refine (large_ok w _ g s (q + 24) HS.out (by have := HQ.out; omega) T8.out.I T8.out.B).mono ?_; rintro e wb8 ⟨rfl, hi, hb, hk⟩; have S9 := Aside0.mk (T8.out.call hi hb hk); have z := S9.out.c2 9; have zf := S9.out.f2 9; clear hi hb hk T8)
    | (refine wpList_load_row rfl 65 (.tmp 4) rfl g4 rfl 65 #[.pointer (some ⟨g, 0, none⟩)] (0, 0) _ (S9.out.put 9 (.int .u64 (rdv s (q + 24) 8))).K4 Try.underlying65 rfl size65 ?_; have T9 : Aside0 (De w _ g g2 g3 g4 s _ #[.int .i64 (rdv s 0 1), .int .i64 (rdv s 1 1), .int .i64 (rdv s 2 1), .int .u64 (rdv s 3 8), .int .i64 (rdv s 11 1), .slice A5 l5.length c5, .int .u64 (rdv s q 8), .int .u64 (rdv s (q + 8) 8), .int .u64 (rdv s (q + 16) 8), .int .u64 (rdv s (q + 24) 8), .int .u64 0, .int .u64 0, .int .u64 0, .slice none 0 0, .slice none 0 0, .float .f64 0] _ _ _ _ _ _) := ⟨S9.out.put 9 (.int .u64 (rdv s (q + 24) 8))⟩; generalize World.setCell _ _ _ = wa9 at T9 ⊢; (try clear z); (try clear zf); clear S9)
    | (go_at_call 31; refine Classical.byCases (p := s.size < q + 48) (fun hN => by (refine (view_bad w _ g s (q + 32) HS.out (by have := HQ.out; omega) (by omega) T9.out.I T9.out.B).mono ?_; rintro e w' ⟨rfl, hb, hk⟩; exact door_bad w _ g2 g3 _ D 10 _ N23.out T9.out.sz (hk.blk T9.out.K2 T9.out.n2 (by simp)) (hk.blk T9.out.K3 T9.out.n3 (by simp)) L2.out L3.out hb (by rw [HD.out]; exact if_pos hN) rfl rfl)) (fun hN => ?_); have HE : Aside0 (D = d10 s l5 q) := ⟨by rw [HD.out]; exact if_neg hN⟩; have HR : Aside0 (q + 48 ≤ s.size) := ⟨by omega⟩; clear HD HQ hN; have HD := HE; have HQ := HR; clear HE HR; refine (view_ok w _ g s (q + 32) HS.out (by have := HQ.out; omega) T9.out.I T9.out.B).mono ?_; rintro e wb9 ⟨rfl, hi, hb, hk⟩; have S10 := Aside0.mk (T9.out.call hi hb hk); have z := fun j => S10.out.c2 j; have zf := fun j => S10.out.f2 j; clear hi hb hk T9)
    | (refine wpList_load_row rfl 65 (.tmp 4) rfl g4 rfl 65 #[.pointer (some ⟨g, 0, none⟩)] (0, 0) _ ((S10.out.put 10 (.int .u64 (rdv s (q + 32) 8))).put 11 (.int .u64 (rdv s (q + 32 + 8) 8))).K4 Try.underlying65 rfl size65 ?_; have T10 : Aside0 (De w _ g g2 g3 g4 s _ #[.int .i64 (rdv s 0 1), .int .i64 (rdv s 1 1), .int .i64 (rdv s 2 1), .int .u64 (rdv s 3 8), .int .i64 (rdv s 11 1), .slice A5 l5.length c5, .int .u64 (rdv s q 8), .int .u64 (rdv s (q + 8) 8), .int .u64 (rdv s (q + 16) 8), .int .u64 (rdv s (q + 24) 8), .int .u64 (rdv s (q + 32) 8), .int .u64 (rdv s (q + 32 + 8) 8), .int .u64 0, .slice none 0 0, .slice none 0 0, .float .f64 0] _ _ _ _ _ _) := ⟨(S10.out.put 10 (.int .u64 (rdv s (q + 32) 8))).put 11 (.int .u64 (rdv s (q + 32 + 8) 8))⟩; generalize World.setCell _ _ _ = wa10 at T10 ⊢; (try clear z); (try clear zf); clear S10)
    | (go_at_call 28; refine Classical.byCases (p := s.size < q + 56) (fun hN => by (refine (large_bad w _ g s (q + 48) (by have := HQ.out; omega) (by omega) T10.out.I T10.out.B).mono ?_; rintro e w' ⟨rfl, hb, hk⟩; exact door_bad w _ g2 g3 _ D 10 _ N23.out T10.out.sz (hk.blk T10.out.K2 T10.out.n2 (by simp)) (hk.blk T10.out.K3 T10.out.n3 (by simp)) L2.out L3.out hb (by rw [HD.out]; exact if_pos hN) rfl rfl)) (fun hN => ?_); have HE : Aside0 (D = d11 s l5 q) := ⟨by rw [HD.out]; exact if_neg hN⟩; have HR : Aside0 (q + 56 ≤ s.size) := ⟨by omega⟩; clear HD HQ hN; have HD := HE; have HQ := HR; clear HE HR; refine (large_ok w _ g s (q + 48) HS.out (by have := HQ.out; omega) T10.out.I T10.out.B).mono ?_; rintro e wb10 ⟨rfl, hi, hb, hk⟩; have S11 := Aside0.mk (T10.out.call hi hb hk); have z := S11.out.c2 12; have zf := S11.out.f2 12; clear hi hb hk T10)
    | (refine wpList_load_row rfl 65 (.tmp 4) rfl g4 rfl 65 #[.pointer (some ⟨g, 0, none⟩)] (0, 0) _ (S11.out.put 12 (.int .u64 (rdv s (q + 48) 8))).K4 Try.underlying65 rfl size65 ?_; have T11 : Aside0 (De w _ g g2 g3 g4 s _ #[.int .i64 (rdv s 0 1), .int .i64 (rdv s 1 1), .int .i64 (rdv s 2 1), .int .u64 (rdv s 3 8), .int .i64 (rdv s 11 1), .slice A5 l5.length c5, .int .u64 (rdv s q 8), .int .u64 (rdv s (q + 8) 8), .int .u64 (rdv s (q + 16) 8), .int .u64 (rdv s (q + 24) 8), .int .u64 (rdv s (q + 32) 8), .int .u64 (rdv s (q + 32 + 8) 8), .int .u64 (rdv s (q + 48) 8), .slice none 0 0, .slice none 0 0, .float .f64 0] _ _ _ _ _ _) := ⟨S11.out.put 12 (.int .u64 (rdv s (q + 48) 8))⟩; generalize World.setCell _ _ _ = wa11 at T11 ⊢; (try clear z); (try clear zf); clear S11)
    | (refine wpList_load_row rfl 65 (.tmp 4) rfl g4 rfl 65 #[.pointer (some ⟨g, 0, none⟩)] (0, 0) _ T11.out.K4 Try.underlying65 rfl size65 ?_)
    | (go_at_call 32; refine Or.elim (except_or (listI s (itP s) 6 (q + 56))) (fun hN => by (obtain ⟨er, hL⟩ := hN; refine (pc_list_bad w _ g s (q + 56) 6 (by have := HQ.out; omega) HS.out T11.out.I T11.out.B er hL).mono ?_; rintro e w' ⟨rfl, hb, hk⟩; exact door_bad w _ g2 g3 _ D er _ N23.out T11.out.sz (hk.blk T11.out.K2 T11.out.n2 (by simp)) (hk.blk T11.out.K3 T11.out.n3 (by simp)) L2.out L3.out hb (by rw [HD.out]; unfold d11; rw [hL]) rfl rfl)) (fun hN => ?_); obtain ⟨⟨l13, q2⟩, hL⟩ := hN; have HE : Aside0 (D = d12 s l5 q l13 q2) := ⟨by rw [HD.out]; unfold d11; rw [hL]⟩; have HL13 := Aside0.mk hL; clear hL HD; have HD := HE; clear HE; refine (pc_list_ok w _ g s (q + 56) 6 (by have := HQ.out; omega) HS.out T11.out.I T11.out.B l13 q2 HL13.out).mono ?_; rintro e wb11 ⟨v, rfl, ho, hi, hq, hb, hk⟩; obtain ⟨A13, c13, rfl⟩ := Kd.R_slice ho; have HR : Aside0 (q2 ≤ s.size) := ⟨hq⟩; clear HQ; have HQ := HR; clear HR; have S12 := Aside0.mk ((T11.out.call hi hb hk).row13 (Kd.R_mono (Kd.R_lower ho T11.out.B.size) (fun _ _ => trivial))); have z := S12.out.c2 13; have zf := S12.out.f2 13; clear hi hb hk ho hq T11)
    | (refine wpList_load_row rfl 65 (.tmp 4) rfl g4 rfl 65 #[.pointer (some ⟨g, 0, none⟩)] (0, 0) _ (S12.out.put 13 (.slice A13 l13.length c13)).K4 Try.underlying65 rfl size65 ?_; have T12 : Aside0 (De w _ g g2 g3 g4 s _ #[.int .i64 (rdv s 0 1), .int .i64 (rdv s 1 1), .int .i64 (rdv s 2 1), .int .u64 (rdv s 3 8), .int .i64 (rdv s 11 1), .slice A5 l5.length c5, .int .u64 (rdv s q 8), .int .u64 (rdv s (q + 8) 8), .int .u64 (rdv s (q + 16) 8), .int .u64 (rdv s (q + 24) 8), .int .u64 (rdv s (q + 32) 8), .int .u64 (rdv s (q + 32 + 8) 8), .int .u64 (rdv s (q + 48) 8), .slice A13 l13.length c13, .slice none 0 0, .float .f64 0] _ _ _ _ _ _) := ⟨S12.out.put 13 (.slice A13 l13.length c13)⟩; generalize World.setCell _ _ _ = wa12 at T12 ⊢; (try clear z); (try clear zf); clear S12)
    | (refine wpList_load_row rfl 65 (.tmp 4) rfl g4 rfl 65 #[.pointer (some ⟨g, 0, none⟩)] (0, 0) _ T12.out.K4 Try.underlying65 rfl size65 ?_)
    | (go_at_call 34; refine Or.elim (except_or (listI s (itX s) 16 q2)) (fun hN => by (obtain ⟨er, hL⟩ := hN; refine (sp_list_bad w _ g s q2 16 (by have := HQ.out; omega) HS.out T12.out.I T12.out.B er hL).mono ?_; rintro e w' ⟨rfl, hb, hk⟩; exact door_bad w _ g2 g3 _ D er _ N23.out T12.out.sz (hk.blk T12.out.K2 T12.out.n2 (by simp)) (hk.blk T12.out.K3 T12.out.n3 (by simp)) L2.out L3.out hb (by rw [HD.out]; unfold d12; rw [hL]) rfl rfl)) (fun hN => ?_); obtain ⟨⟨l14, q3⟩, hL⟩ := hN; have HE : Aside0 (D = d13 s l5 q l13 l14 q3) := ⟨by rw [HD.out]; unfold d12; rw [hL]⟩; have HL14 := Aside0.mk hL; clear hL HD; have HD := HE; clear HE; refine (sp_list_ok w _ g s q2 16 (by have := HQ.out; omega) HS.out T12.out.I T12.out.B l14 q3 HL14.out).mono ?_; rintro e wb12 ⟨v, rfl, ho, hi, hq, hb, hk⟩; obtain ⟨A14, c14, rfl⟩ := Kd.R_slice ho; have HR : Aside0 (q3 ≤ s.size) := ⟨hq⟩; clear HQ; have HQ := HR; clear HR; have S13 := Aside0.mk ((T12.out.call hi hb hk).row14 (Kd.R_mono (Kd.R_lower ho T12.out.B.size) (fun _ _ => trivial))); have z := S13.out.c2 14; have zf := S13.out.f2 14; clear hi hb hk ho hq T12; have x4 := blk_cell (S13.out.put 14 (.slice A14 l14.length c14)).K4 0))
  have S20 : Aside0 (De w _ g g2 g3 g4 s (q3 : Int) #[.int .i64 (rdv s 0 1), .int .i64 (rdv s 1 1), .int .i64 (rdv s 2 1), .int .u64 (rdv s 3 8), .int .i64 (rdv s 11 1), .slice A5 l5.length c5, .int .u64 (rdv s q 8), .int .u64 (rdv s (q + 8) 8), .int .u64 (rdv s (q + 16) 8), .int .u64 (rdv s (q + 24) 8), .int .u64 (rdv s (q + 32) 8), .int .u64 (rdv s (q + 32 + 8) 8), .int .u64 (rdv s (q + 48) 8), .slice A13 l13.length c13, .slice A14 l14.length c14, .float .f64 0] (.slice A5 l5.length c5) (.slice A13 l13.length c13) (.slice A14 l14.length c14) l5 l13 l14) := ⟨S13.out.put 14 (.slice A14 l14.length c14)⟩
  generalize World.setCell _ _ _ = w20 at S20 x4 ⊢
  clear S13 z zf
  by_cases hN : s.size < q3 + 8
  · have HN := Aside0.mk hN
    clear hN
    go_wp2_with (first
      | (go_at_call 37; refine (real37_bad w _ g s q3 HQ.out HN.out S20.out.I S20.out.B).mono ?_; rintro e w' ⟨x_, rfl, hb, hk⟩; have HB_ := Aside0.mk hb; have HK_ := Aside0.mk hk; clear hb hk)
      | (go_at_call 36; refine (must_flt_bad _ 10 (by decide) _).mono ?_; rintro e w'' ⟨rfl, rfl⟩))
    have hb := HB_.out
    have hk := HK_.out
    exact door_bad w _ g2 g3 _ D 10 _ N23.out S20.out.sz (hk.blk S20.out.K2 S20.out.n2 (by simp)) (hk.blk S20.out.K3 S20.out.n3 (by simp)) L2.out L3.out hb (by rw [HD.out]; exact if_pos HN.out) rfl rfl
  have HD1 : Aside0 (D = d14 s l5 q l13 l14 q3) := ⟨by rw [HD.out]; exact if_neg hN⟩
  clear HD
  have HD := HD1
  have HR : Aside0 (q3 + 8 ≤ s.size) := ⟨by omega⟩
  clear HD1 HQ hN
  by_cases hN : q3 + 8 < s.size
  · have HN := Aside0.mk hN
    clear hN
    go_wp2_with (first
      | (go_at_call 37; refine (real37_ok w _ g s q3 HS.out HR.out S20.out.I S20.out.B).mono ?_; rintro e w21 ⟨rfl, hi, hb, hk⟩; have S21 := Aside0.mk (S20.out.call hi hb hk); have z := S21.out.c2 15; have zf := S21.out.f2 15; have y4 := blk_cell (S21.out.put 15 (.float .f64 (loadF s q3))).K4 0; clear hi hb hk S20 x4)
      | (go_at_call 36; refine (must_flt_ok _ _).mono ?_; rintro e w'' ⟨rfl, rfl⟩)
      | (go_at_call 38; refine (end_more w _ g s (q3 + 8) HS.out HN.out (S21.out.put 15 (.float .f64 (loadF s q3))).I (S21.out.put 15 (.float .f64 (loadF s q3))).B).mono ?_; rintro e w22 ⟨rfl, hi, hb, hk⟩; have S22 := Aside0.mk ((S21.out.put 15 (.float .f64 (loadF s q3))).call hi hb hk); have x5 := blk_cell S22.out.K4 0; clear hi hb hk S21 z zf y4)
      | (go_at_call 38; refine (end_more w _ g s (q3 + 8) HS.out HN.out S22.out.I S22.out.B).mono ?_; rintro e w23 ⟨rfl, hi, hb, hk⟩; have S23 := Aside0.mk (S22.out.call hi hb hk); clear hi hb hk S22 x5))
    have hb := S23.out.B
    exact door_bad w _ g2 g3 _ D 11 _ N23.out S23.out.sz S23.out.K2 S23.out.K3 L2.out L3.out hb (by rw [HD.out]; exact if_pos HN.out) rfl rfl
  have HD1 : Aside0 (D = d15 s l5 q l13 l14 q3) := ⟨by rw [HD.out]; exact if_neg hN⟩
  clear HD
  have HD := HD1
  have HE : Aside0 (q3 + 8 = s.size) := ⟨by have := HR.out; omega⟩
  clear HD1 hN
  have hi32 : (Try.prog.info? 32).map (·.size) = some 16 := by kernel_rfl
  by_cases h1 : rdv s 0 1 < 1
  · have H1 := Aside0.mk h1
    go_wp2_with (first
      | (go_at_call 37; refine (real37_ok w _ g s q3 HS.out HR.out S20.out.I S20.out.B).mono ?_; rintro e w21 ⟨rfl, hi, hb, hk⟩; have S21 := Aside0.mk (S20.out.call hi hb hk); have z := S21.out.c2 15; have zf := S21.out.f2 15; have y4 := blk_cell (S21.out.put 15 (.float .f64 (loadF s q3))).K4 0; clear hi hb hk S20 x4)
      | (go_at_call 36; refine (must_flt_ok _ _).mono ?_; rintro e w'' ⟨rfl, rfl⟩)
      | (go_at_call 38; refine (end_done w _ g s (q3 + 8) HS.out HE.out (S21.out.put 15 (.float .f64 (loadF s q3))).I (S21.out.put 15 (.float .f64 (loadF s q3))).B).mono ?_; rintro e w22 ⟨rfl, hi, hb, hk⟩; have S22 : Aside0 (De w w22 g g2 g3 g4 s ((q3 + 8 : Nat) : Int) #[.int .i64 (rdv s 0 1), .int .i64 (rdv s 1 1), .int .i64 (rdv s 2 1), .int .u64 (rdv s 3 8), .int .i64 (rdv s 11 1), .slice A5 l5.length c5, .int .u64 (rdv s q 8), .int .u64 (rdv s (q + 8) 8), .int .u64 (rdv s (q + 16) 8), .int .u64 (rdv s (q + 24) 8), .int .u64 (rdv s (q + 32) 8), .int .u64 (rdv s (q + 32 + 8) 8), .int .u64 (rdv s (q + 48) 8), .slice A13 l13.length c13, .slice A14 l14.length c14, .float .f64 (loadF s q3)] (.slice A5 l5.length c5) (.slice A13 l13.length c13) (.slice A14 l14.length c14) l5 l13 l14) := ⟨(S21.out.put 15 (.float .f64 (loadF s q3))).call hi hb hk⟩; have z := S22.out.c2 0; clear hi hb hk S21 zf y4))
    have hb := S22.out.B
    exact door_bad w _ g2 g3 _ D 150 _ N23.out S22.out.sz S22.out.K2 S22.out.K3 L2.out L3.out hb (by rw [HD.out]; exact if_pos (.inl H1.out)) rfl rfl
  by_cases h2 : 14 < rdv s 0 1
  · have H2 := Aside0.mk h2
    go_wp2_with (first
      | (go_at_call 37; refine (real37_ok w _ g s q3 HS.out HR.out S20.out.I S20.out.B).mono ?_; rintro e w21 ⟨rfl, hi, hb, hk⟩; have S21 := Aside0.mk (S20.out.call hi hb hk); have z := S21.out.c2 15; have zf := S21.out.f2 15; have y4 := blk_cell (S21.out.put 15 (.float .f64 (loadF s q3))).K4 0; clear hi hb hk S20 x4)
      | (go_at_call 36; refine (must_flt_ok _ _).mono ?_; rintro e w'' ⟨rfl, rfl⟩)
      | (go_at_call 38; refine (end_done w _ g s (q3 + 8) HS.out HE.out (S21.out.put 15 (.float .f64 (loadF s q3))).I (S21.out.put 15 (.float .f64 (loadF s q3))).B).mono ?_; rintro e w22 ⟨rfl, hi, hb, hk⟩; have S22 : Aside0 (De w w22 g g2 g3 g4 s ((q3 + 8 : Nat) : Int) #[.int .i64 (rdv s 0 1), .int .i64 (rdv s 1 1), .int .i64 (rdv s 2 1), .int .u64 (rdv s 3 8), .int .i64 (rdv s 11 1), .slice A5 l5.length c5, .int .u64 (rdv s q 8), .int .u64 (rdv s (q + 8) 8), .int .u64 (rdv s (q + 16) 8), .int .u64 (rdv s (q + 24) 8), .int .u64 (rdv s (q + 32) 8), .int .u64 (rdv s (q + 32 + 8) 8), .int .u64 (rdv s (q + 48) 8), .slice A13 l13.length c13, .slice A14 l14.length c14, .float .f64 (loadF s q3)] (.slice A5 l5.length c5) (.slice A13 l13.length c13) (.slice A14 l14.length c14) l5 l13 l14) := ⟨(S21.out.put 15 (.float .f64 (loadF s q3))).call hi hb hk⟩; have z := S22.out.c2 0; clear hi hb hk S21 zf y4))
    have hb := S22.out.B
    exact door_bad w _ g2 g3 _ D 150 _ N23.out S22.out.sz S22.out.K2 S22.out.K3 L2.out L3.out hb (by rw [HD.out]; exact if_pos (.inr H2.out)) rfl rfl
  have HD1 : Aside0 (D = d16 s l5 q l13 l14 q3) := ⟨by rw [HD.out]; exact if_neg (by rintro (h | h); exact h1 h; exact h2 h)⟩
  clear HD
  have HD := HD1
  clear HD1
  cases hM : mayL (rdv s 0 1) (rdv s 1 1) (rdv s 2 1) (rdv s 11 1) l5 l13 l14 (loadF s q3)
  · have HM := Aside0.mk hM
    clear hM
    go_wp2_with (first
      | (go_at_call 37; refine (real37_ok w _ g s q3 HS.out HR.out S20.out.I S20.out.B).mono ?_; rintro e w21 ⟨rfl, hi, hb, hk⟩; have S21 := Aside0.mk (S20.out.call hi hb hk); have z := S21.out.c2 15; have zf := S21.out.f2 15; have y4 := blk_cell (S21.out.put 15 (.float .f64 (loadF s q3))).K4 0; clear hi hb hk S20 x4)
      | (go_at_call 36; refine (must_flt_ok _ _).mono ?_; rintro e w'' ⟨rfl, rfl⟩)
      | (go_at_call 38; refine (end_done w _ g s (q3 + 8) HS.out HE.out (S21.out.put 15 (.float .f64 (loadF s q3))).I (S21.out.put 15 (.float .f64 (loadF s q3))).B).mono ?_; rintro e w22 ⟨rfl, hi, hb, hk⟩; have S22 : Aside0 (De w w22 g g2 g3 g4 s ((q3 + 8 : Nat) : Int) #[.int .i64 (rdv s 0 1), .int .i64 (rdv s 1 1), .int .i64 (rdv s 2 1), .int .u64 (rdv s 3 8), .int .i64 (rdv s 11 1), .slice A5 l5.length c5, .int .u64 (rdv s q 8), .int .u64 (rdv s (q + 8) 8), .int .u64 (rdv s (q + 16) 8), .int .u64 (rdv s (q + 24) 8), .int .u64 (rdv s (q + 32) 8), .int .u64 (rdv s (q + 32 + 8) 8), .int .u64 (rdv s (q + 48) 8), .slice A13 l13.length c13, .slice A14 l14.length c14, .float .f64 (loadF s q3)] (.slice A5 l5.length c5) (.slice A13 l13.length c13) (.slice A14 l14.length c14) l5 l13 l14) := ⟨(S21.out.put 15 (.float .f64 (loadF s q3))).call hi hb hk⟩; have z := S22.out.c2 0; clear hi hb hk S21 zf y4)
      | (refine wpList_load_row rfl 32 (.tmp 2) rfl g2 rfl 32 #[.int .i64 (rdv s 0 1), .int .i64 (rdv s 1 1), .int .i64 (rdv s 2 1), .int .u64 (rdv s 3 8), .int .i64 (rdv s 11 1), .slice A5 l5.length c5, .int .u64 (rdv s q 8), .int .u64 (rdv s (q + 8) 8), .int .u64 (rdv s (q + 16) 8), .int .u64 (rdv s (q + 24) 8), .int .u64 (rdv s (q + 32) 8), .int .u64 (rdv s (q + 32 + 8) 8), .int .u64 (rdv s (q + 48) 8), .slice A13 l13.length c13, .slice A14 l14.length c14, .float .f64 (loadF s q3)] (0, 0) _ S22.out.K2 Try.underlying32 rfl hi32 ?_)
      | (go_at_call 18; refine (may_at (rdv s 0 1) (rdv s 1 1) (rdv s 2 1) (rdv s 3 8) (rdv s 11 1) A5 c5 l5 (rdv s q 8) (rdv s (q + 8) 8) (rdv s (q + 16) 8) (rdv s (q + 24) 8) (rdv s (q + 32) 8) (rdv s (q + 32 + 8) 8) (rdv s (q + 48) 8) A13 c13 l13 A14 c14 l14 (loadF s q3) _ (Kd.R_reads' S22.out.R5).2.2 (Kd.R_reads' S22.out.R5).2.1 (Kd.R_reads' S22.out.R13).2.2 (Kd.R_reads' S22.out.R13).2.1 (Kd.R_reads' S22.out.R14).2.2 (Kd.R_reads' S22.out.R14).2.1).mono ?_; rintro e w23 ⟨rfl, hb⟩; rw [HM.out]; have S23 := Aside0.mk (S22.out.below hb); clear hb z S22))
    have hb := S23.out.B
    exact door_bad w _ g2 g3 _ D 1 _ N23.out S23.out.sz S23.out.K2 S23.out.K3 L2.out L3.out hb (by rw [HD.out]; exact if_pos HM.out) rfl rfl
  · have HM := Aside0.mk hM
    clear hM
    go_wp2_with (first
      | (go_at_call 37; refine (real37_ok w _ g s q3 HS.out HR.out S20.out.I S20.out.B).mono ?_; rintro e w21 ⟨rfl, hi, hb, hk⟩; have S21 := Aside0.mk (S20.out.call hi hb hk); have z := S21.out.c2 15; have zf := S21.out.f2 15; have y4 := blk_cell (S21.out.put 15 (.float .f64 (loadF s q3))).K4 0; clear hi hb hk S20 x4)
      | (go_at_call 36; refine (must_flt_ok _ _).mono ?_; rintro e w'' ⟨rfl, rfl⟩)
      | (go_at_call 38; refine (end_done w _ g s (q3 + 8) HS.out HE.out (S21.out.put 15 (.float .f64 (loadF s q3))).I (S21.out.put 15 (.float .f64 (loadF s q3))).B).mono ?_; rintro e w22 ⟨rfl, hi, hb, hk⟩; have S22 : Aside0 (De w w22 g g2 g3 g4 s ((q3 + 8 : Nat) : Int) #[.int .i64 (rdv s 0 1), .int .i64 (rdv s 1 1), .int .i64 (rdv s 2 1), .int .u64 (rdv s 3 8), .int .i64 (rdv s 11 1), .slice A5 l5.length c5, .int .u64 (rdv s q 8), .int .u64 (rdv s (q + 8) 8), .int .u64 (rdv s (q + 16) 8), .int .u64 (rdv s (q + 24) 8), .int .u64 (rdv s (q + 32) 8), .int .u64 (rdv s (q + 32 + 8) 8), .int .u64 (rdv s (q + 48) 8), .slice A13 l13.length c13, .slice A14 l14.length c14, .float .f64 (loadF s q3)] (.slice A5 l5.length c5) (.slice A13 l13.length c13) (.slice A14 l14.length c14) l5 l13 l14) := ⟨(S21.out.put 15 (.float .f64 (loadF s q3))).call hi hb hk⟩; have z := S22.out.c2 0; clear hi hb hk S21 zf y4)
      | (refine wpList_load_row rfl 32 (.tmp 2) rfl g2 rfl 32 #[.int .i64 (rdv s 0 1), .int .i64 (rdv s 1 1), .int .i64 (rdv s 2 1), .int .u64 (rdv s 3 8), .int .i64 (rdv s 11 1), .slice A5 l5.length c5, .int .u64 (rdv s q 8), .int .u64 (rdv s (q + 8) 8), .int .u64 (rdv s (q + 16) 8), .int .u64 (rdv s (q + 24) 8), .int .u64 (rdv s (q + 32) 8), .int .u64 (rdv s (q + 32 + 8) 8), .int .u64 (rdv s (q + 48) 8), .slice A13 l13.length c13, .slice A14 l14.length c14, .float .f64 (loadF s q3)] (0, 0) _ S22.out.K2 Try.underlying32 rfl hi32 ?_)
      | (go_at_call 18; refine (may_at (rdv s 0 1) (rdv s 1 1) (rdv s 2 1) (rdv s 3 8) (rdv s 11 1) A5 c5 l5 (rdv s q 8) (rdv s (q + 8) 8) (rdv s (q + 16) 8) (rdv s (q + 24) 8) (rdv s (q + 32) 8) (rdv s (q + 32 + 8) 8) (rdv s (q + 48) 8) A13 c13 l13 A14 c14 l14 (loadF s q3) _ (Kd.R_reads' S22.out.R5).2.2 (Kd.R_reads' S22.out.R5).2.1 (Kd.R_reads' S22.out.R13).2.2 (Kd.R_reads' S22.out.R13).2.1 (Kd.R_reads' S22.out.R14).2.2 (Kd.R_reads' S22.out.R14).2.1).mono ?_; rintro e w23 ⟨rfl, hb⟩; rw [HM.out]; have S23 := Aside0.mk (S22.out.below hb); clear hb z S22)
      | (refine wpList_load_row rfl 32 (.tmp 2) rfl g2 rfl 32 #[.int .i64 (rdv s 0 1), .int .i64 (rdv s 1 1), .int .i64 (rdv s 2 1), .int .u64 (rdv s 3 8), .int .i64 (rdv s 11 1), .slice A5 l5.length c5, .int .u64 (rdv s q 8), .int .u64 (rdv s (q + 8) 8), .int .u64 (rdv s (q + 16) 8), .int .u64 (rdv s (q + 24) 8), .int .u64 (rdv s (q + 32) 8), .int .u64 (rdv s (q + 32 + 8) 8), .int .u64 (rdv s (q + 48) 8), .slice A13 l13.length c13, .slice A14 l14.length c14, .float .f64 (loadF s q3)] (0, 0) _ S23.out.K2 Try.underlying32 rfl hi32 ?_)
      | ((with_reducible refine gate_store (t := 32) (p := 2) rfl ?_); go_loud (refine wpList_store_row rfl 32 (.tmp 2) (.tmp 89) rfl g2 #[.int .i64 (rdv s 0 1), .int .i64 (rdv s 1 1), .int .i64 (rdv s 2 1), .int .u64 (rdv s 3 8), .int .i64 (rdv s 11 1), .slice A5 l5.length c5, .int .u64 (rdv s q 8), .int .u64 (rdv s (q + 8) 8), .int .u64 (rdv s (q + 16) 8), .int .u64 (rdv s (q + 24) 8), .int .u64 (rdv s (q + 32) 8), .int .u64 (rdv s (q + 32 + 8) 8), .int .u64 (rdv s (q + 48) 8), .slice A13 l13.length c13, .slice A14 l14.length c14, .float .f64 (loadF s q3)] rfl rfl 32 #[.int .i64 (rdv s 0 1), .int .i64 (rdv s 1 1), .int .i64 (rdv s 2 1), .int .u64 (rdv s 3 8), .int .i64 (rdv s 11 1), .slice A5 l5.length c5, .int .u64 (rdv s q 8), .int .u64 (rdv s (q + 8) 8), .int .u64 (rdv s (q + 16) 8), .int .u64 (rdv s (q + 24) 8), .int .u64 (rdv s (q + 32) 8), .int .u64 (rdv s (q + 32 + 8) 8), .int .u64 (rdv s (q + 48) 8), .slice A13 l13.length c13, .slice A14 l14.length c14, .float .f64 (loadF s q3)] S23.out.K2 hi32 rfl (one_L _ _ _ _ _ _ _ _ _ _ _ _ _ _ _ _ _ _ _ _ _ _) ?_); have RK2 := Aside0.mk (setRow_heap w23 g2 #[.int .i64 (rdv s 0 1), .int .i64 (rdv s 1 1), .int .i64 (rdv s 2 1), .int .u64 (rdv s 3 8), .int .i64 (rdv s 11 1), .slice A5 l5.length c5, .int .u64 (rdv s q 8), .int .u64 (rdv s (q + 8) 8), .int .u64 (rdv s (q + 16) 8), .int .u64 (rdv s (q + 24) 8), .int .u64 (rdv s (q + 32) 8), .int .u64 (rdv s (q + 32 + 8) 8), .int .u64 (rdv s (q + 48) 8), .slice A13 l13.length c13, .slice A14 l14.length c14, .float .f64 (loadF s q3)] #[.int .i64 (rdv s 0 1), .int .i64 (rdv s 1 1), .int .i64 (rdv s 2 1), .int .u64 (rdv s 3 8), .int .i64 (rdv s 11 1), .slice A5 l5.length c5, .int .u64 (rdv s q 8), .int .u64 (rdv s (q + 8) 8), .int .u64 (rdv s (q + 16) 8), .int .u64 (rdv s (q + 24) 8), .int .u64 (rdv s (q + 32) 8), .int .u64 (rdv s (q + 32 + 8) 8), .int .u64 (rdv s (q + 48) 8), .slice A13 l13.length c13, .slice A14 l14.length c14, .float .f64 (loadF s q3)] 32 (0, 0) S23.out.K2); have RK3 := Aside0.mk ((setRow_other w23 g2 g3 #[.int .i64 (rdv s 0 1), .int .i64 (rdv s 1 1), .int .i64 (rdv s 2 1), .int .u64 (rdv s 3 8), .int .i64 (rdv s 11 1), .slice A5 l5.length c5, .int .u64 (rdv s q 8), .int .u64 (rdv s (q + 8) 8), .int .u64 (rdv s (q + 16) 8), .int .u64 (rdv s (q + 24) 8), .int .u64 (rdv s (q + 32) 8), .int .u64 (rdv s (q + 32 + 8) 8), .int .u64 (rdv s (q + 48) 8), .slice A13 l13.length c13, .slice A14 l14.length c14, .float .f64 (loadF s q3)] (Ne.symm N23.out)).trans S23.out.K3); have RB := Aside0.mk (below_setRow S23.out.B L2.out #[.int .i64 (rdv s 0 1), .int .i64 (rdv s 1 1), .int .i64 (rdv s 2 1), .int .u64 (rdv s 3 8), .int .i64 (rdv s 11 1), .slice A5 l5.length c5, .int .u64 (rdv s q 8), .int .u64 (rdv s (q + 8) 8), .int .u64 (rdv s (q + 16) 8), .int .u64 (rdv s (q + 24) 8), .int .u64 (rdv s (q + 32) 8), .int .u64 (rdv s (q + 32 + 8) 8), .int .u64 (rdv s (q + 48) 8), .slice A13 l13.length c13, .slice A14 l14.length c14, .float .f64 (loadF s q3)]); have RR5 := Aside0.mk (row_step S23.out.R5 S23.out.K2 (by decide) #[.int .i64 (rdv s 0 1), .int .i64 (rdv s 1 1), .int .i64 (rdv s 2 1), .int .u64 (rdv s 3 8), .int .i64 (rdv s 11 1), .slice A5 l5.length c5, .int .u64 (rdv s q 8), .int .u64 (rdv s (q + 8) 8), .int .u64 (rdv s (q + 16) 8), .int .u64 (rdv s (q + 24) 8), .int .u64 (rdv s (q + 32) 8), .int .u64 (rdv s (q + 32 + 8) 8), .int .u64 (rdv s (q + 48) 8), .slice A13 l13.length c13, .slice A14 l14.length c14, .float .f64 (loadF s q3)]); have RR13 := Aside0.mk (row_step S23.out.R13 S23.out.K2 (by decide) #[.int .i64 (rdv s 0 1), .int .i64 (rdv s 1 1), .int .i64 (rdv s 2 1), .int .u64 (rdv s 3 8), .int .i64 (rdv s 11 1), .slice A5 l5.length c5, .int .u64 (rdv s q 8), .int .u64 (rdv s (q + 8) 8), .int .u64 (rdv s (q + 16) 8), .int .u64 (rdv s (q + 24) 8), .int .u64 (rdv s (q + 32) 8), .int .u64 (rdv s (q + 32 + 8) 8), .int .u64 (rdv s (q + 48) 8), .slice A13 l13.length c13, .slice A14 l14.length c14, .float .f64 (loadF s q3)]); have RR14 := Aside0.mk (row_step S23.out.R14 S23.out.K2 (by decide) #[.int .i64 (rdv s 0 1), .int .i64 (rdv s 1 1), .int .i64 (rdv s 2 1), .int .u64 (rdv s 3 8), .int .i64 (rdv s 11 1), .slice A5 l5.length c5, .int .u64 (rdv s q 8), .int .u64 (rdv s (q + 8) 8), .int .u64 (rdv s (q + 16) 8), .int .u64 (rdv s (q + 24) 8), .int .u64 (rdv s (q + 32) 8), .int .u64 (rdv s (q + 32 + 8) 8), .int .u64 (rdv s (q + 48) 8), .slice A13 l13.length c13, .slice A14 l14.length c14, .float .f64 (loadF s q3)]); generalize World.setRow w23 g2 _ = w24 at RK2 RK3 RB RR5 RR13 RR14 ⊢; have z3 := blk_cell RK3.out 0; have zf3 := blk_frozen RK3.out 0; clear S23))
    have Q2 := blk_far (p := ⟨g3, 0, none⟩) RK2.out N23.out (.int .i64 0)
    have Q3 := blk_put RK3.out 0 (.int .i64 0) rfl
    exact door_ok w _ g2 g3 (letterOf s l5 q l13 l14 q3) (.slice A5 l5.length c5) (.slice A13 l13.length c13) (.slice A14 l14.length c14) D _ Q2 Q3 (below_set RB.out L3.out) (by rw [HD.out]; exact if_neg (by rw [HM.out]; decide))
      (Kd.R_mono (Kd.R_far (p := ⟨g3, 0, none⟩) (Kd.R_types RR5.out RK3.out (by decide)) (fun _ h => h.2) _) (fun _ _ => trivial)) (Kd.R_mono (Kd.R_far (p := ⟨g3, 0, none⟩) (Kd.R_types RR13.out RK3.out (by decide)) (fun _ h => h.2) _) (fun _ _ => trivial)) (Kd.R_mono (Kd.R_far (p := ⟨g3, 0, none⟩) (Kd.R_types RR14.out RK3.out (by decide)) (fun _ h => h.2) _) (fun _ _ => trivial)) rfl rfl
end Go.Proofs.Ytondgoabnmgcaaa.B
end
section
/- By hand: Decode's answer in the print's form, and 'shown': a letter is bytes, and back. -/
namespace Go.Proofs.Ytondgoabnmgcaaa.B
open Go.RowKit Go.Proofs.YtondgoabnmgcaaaW.PrintWords Go.Proofs.YtondgoabnmgcaaaW.PrintLast Go.Proofs.YtondgoabnmgcaaaW.PrintMore
open Go.Proofs.YtondgoabnmgcaaaO.R (rdv rbits le)
set_option linter.unusedSimpArgs false
set_option linter.unusedVariables false
theorem C_nil {α : Type} (d : Kd α) (w : World) : Kd.C d w none ([] : List α).length [] := ⟨rfl, by simp, fun h0 => absurd h0 (by simp)⟩
def shownX : S32 := ⟨3, 1, 2, 9, 0, [], ⟨0, 0⟩, 0, 0, ⟨0, 0⟩, 0, [], [], 0⟩
theorem shown_may : mayL 3 1 2 0 [] [] [] 0 = true := by kernel_rfl
theorem shown_okL : okL 3 1 2 9 0 [] 0 0 0 0 0 0 0 [] [] 0 = true := by kernel_rfl
theorem shown_dec : decP (strOfNums (encL 3 1 2 9 0 [] 0 0 0 0 0 0 0 [] [] 0)) = .ok shownX := by kernel_rfl
theorem shown_size : (strOfNums (encL 3 1 2 9 0 [] 0 0 0 0 0 0 0 [] [] 0)).size = 79 := by kernel_rfl
theorem shown_open : Go.Proofs.YtondgoabnmgcaaaG.B.guard_Open.f (sealS (strOfNums (encL 3 1 2 9 0 [] 0 0 0 0 0 0 0 [] [] 0))) = some (strOfNums (encL 3 1 2 9 0 [] 0 0 0 0 0 0 0 [] [] 0), 0) :=
  Go.Proofs.YtondgoabnmgcaaaG.Pure.open_seal _ (by rw [shown_size]; decide)
def conventiclelaw15_shown.f : Option Bool := some true
set_option maxRecDepth 100000 in
set_option maxHeartbeats 2000000 in
theorem conventiclelaw15_shown.calls (r : Bool) (w : World) (h : conventiclelaw15_shown.f = some r) :
    Calls Try.prog 8 #[] w fun e w' => e = .returned (.bool r) ∧ Below w.heap.size w w' := by
  obtain rfl := Option.some.inj h
  clear h
  have HE := fun w : World => Aside0.mk (encode_ok 3 1 2 9 0 none 0 [] 0 0 0 0 0 0 0 none 0 [] none 0 [] 0 w (C_nil _ _) (Nat.le_refl _) (C_nil _ _) (Nat.le_refl _) (C_nil _ _) (Nat.le_refl _) shown_may shown_okL)
  have HD := Aside0.mk shown_dec
  have HO := Aside0.mk shown_open
  have HSZ := Aside0.mk shown_size
  generalize strOfNums (encL 3 1 2 9 0 [] 0 0 0 0 0 0 0 [] [] 0) = s at HE HD HO HSZ
  obtain ⟨t, ht⟩ : ∃ t, sealS s = t := ⟨_, rfl⟩
  rw [ht] at HE HO
  clear ht
  go_enter Try.func8, Try.ntmps8
  go_wp2_with (first
    | (go_at_call 14; refine ((HE _).out).mono ?_; rintro e w1 ⟨rfl, hb⟩; have B1 := Aside0.mk hb; clear hb)
    | (go_at_call 10; refine (decode_walk _ t s HO.out (by rw [HSZ.out]; decide)).mono ?_; rintro e w2 hh; rw [HD.out] at hh; obtain ⟨hb, v5, v13, v14, rfl, r5, r13, r14⟩ := hh; obtain ⟨A5, c5, rfl⟩ := Kd.R_slice r5; obtain ⟨A13, c13, rfl⟩ := Kd.R_slice r13; obtain ⟨A14, c14, rfl⟩ := Kd.R_slice r14; have hc : cellsL shownX (.slice A5 shownX.f5.length c5) (.slice A13 shownX.f11.length c13) (.slice A14 shownX.f12.length c14) = #[.int .i64 3, .int .i64 1, .int .i64 2, .int .u64 9, .int .i64 0, .slice A5 0 c5, .int .u64 0, .int .u64 0, .int .u64 0, .int .u64 0, .int .u64 0, .int .u64 0, .int .u64 0, .slice A13 0 c13, .slice A14 0 c14, .float .f64 0] := rfl; rw [hc]; clear hc; have B2 := Aside0.mk (below_step B1.out hb); clear hb r5 r13 r14)
    | ((with_reducible refine gate_dst (N := 3) rfl ?_); refine box_event ?hg (N := 3) ?hd (cs := #[.int .i64 0, .int .i64 0, .int .i64 0, .int .u64 0, .int .i64 0, .slice none 0 0, .int .u64 0, .int .u64 0, .int .u64 0, .int .u64 0, .int .u64 0, .int .u64 0, .int .u64 0, .slice none 0 0, .slice none 0 0, .float .f64 0]) (t := 32) ?hr ?_; (case hd => rfl); (case hg => rfl); (case hr => first | (go_simp; done) | (go_simp; rfl)); intro g3 hg_ w3 hb_ hB_; have K3 := Aside0.mk hb_; have G3 := Aside0.mk (show w.heap.size ≤ g3 by rw [hg_]; exact B2.out.size); have B3 := Aside0.mk (below_step B2.out hB_); clear hg_ hb_ hB_)
    | ((with_reducible refine gate_store (t := 32) (p := 3) rfl ?_); go_loud (refine wpList_store_row rfl 32 (.tmp 3) (.tmp 13) rfl g3 #[.int .i64 3, .int .i64 1, .int .i64 2, .int .u64 9, .int .i64 0, .slice A5 0 c5, .int .u64 0, .int .u64 0, .int .u64 0, .int .u64 0, .int .u64 0, .int .u64 0, .int .u64 0, .slice A13 0 c13, .slice A14 0 c14, .float .f64 0] rfl rfl 32 #[.int .i64 0, .int .i64 0, .int .i64 0, .int .u64 0, .int .i64 0, .slice none 0 0, .int .u64 0, .int .u64 0, .int .u64 0, .int .u64 0, .int .u64 0, .int .u64 0, .int .u64 0, .slice none 0 0, .slice none 0 0, .float .f64 0] K3.out si32 rfl (one_L _ _ _ _ _ _ _ _ _ _ _ _ _ _ _ _ _ _ _ _ _ _) ?_); have RK := Aside0.mk (setRow_heap w3 g3 #[.int .i64 0, .int .i64 0, .int .i64 0, .int .u64 0, .int .i64 0, .slice none 0 0, .int .u64 0, .int .u64 0, .int .u64 0, .int .u64 0, .int .u64 0, .int .u64 0, .int .u64 0, .slice none 0 0, .slice none 0 0, .float .f64 0] #[.int .i64 3, .int .i64 1, .int .i64 2, .int .u64 9, .int .i64 0, .slice A5 0 c5, .int .u64 0, .int .u64 0, .int .u64 0, .int .u64 0, .int .u64 0, .int .u64 0, .int .u64 0, .slice A13 0 c13, .slice A14 0 c14, .float .f64 0] 32 (0, 0) K3.out); have RB := Aside0.mk (below_setRow B3.out G3.out #[.int .i64 3, .int .i64 1, .int .i64 2, .int .u64 9, .int .i64 0, .slice A5 0 c5, .int .u64 0, .int .u64 0, .int .u64 0, .int .u64 0, .int .u64 0, .int .u64 0, .int .u64 0, .slice A13 0 c13, .slice A14 0 c14, .float .f64 0]); generalize World.setRow w3 g3 _ = w4 at RK RB ⊢; have z := fun j => blk_cell RK.out j))
  go_ret
  exact ⟨rfl, RB.out⟩
end Go.Proofs.Ytondgoabnmgcaaa.B
end
section
/- By hand: the walk of LetterMay. -/
namespace Go.Proofs.Ytondgoabnmgcaaa.B
open Go.RowKit Go.Proofs.YtondgoabnmgcaaaW.PrintWords Go.Proofs.YtondgoabnmgcaaaW.PrintLast Go.Proofs.YtondgoabnmgcaaaW.PrintMore
open Go.Proofs.YtondgoabnmgcaaaO.R (le le_length rbits ord)
set_option linter.unusedSimpArgs false
set_option linter.unusedVariables false
def plainB (x : Nat) : Bool := geF x && !negF x
theorem ge_self (x : Nat) (h : geF x = true) : (FloatKind.f64.format.order x x == some Ordering.eq) = true := by
  unfold geF at h
  rw [ord] at h
  by_cases hn : Go.Proofs.YtondgoabnmgcaaaO.Flt.nan x = true ∨ Go.Proofs.YtondgoabnmgcaaaO.Flt.nan 0 = true
  · rw [if_pos hn] at h; cases h
  · rw [ord, if_neg (by rintro (h | h) <;> exact hn (.inl h))]
    simp
theorem one_at (n : Int) (w : World) : Calls Try.prog 16 #[.int .i64 n] w fun e w' => e = .returned (.bool (nodeB n)) ∧ w = w' := by
  go_enter Try.func16, Try.ntmps16
  go_wp2
  all_goals
    go_ret
    refine ⟨?_, rfl⟩
    first | (simp_all [nodeB]; done) | (simp_all [nodeB]; omega)
/-- so many pieces, numbered -/
def pcs (n : Nat) : List S53 := (List.range n).map fun (i : Nat) => ⟨(i : Int), ⟨0, 0, ⟨#[]⟩⟩⟩
theorem pcs_len (n : Nat) : (pcs n).length = n := by simp [pcs]
theorem pcs_succ (n : Nat) : pcs (n + 1) = pcs n ++ [⟨(n : Int), ⟨0, 0, ⟨#[]⟩⟩⟩] := by simp [pcs, List.range_succ]
theorem pcs_may (n : Nat) : (pcs n).all mayP = true := by
  rw [List.all_eq_true]
  intro p hp
  obtain ⟨i, _, rfl⟩ := List.mem_map.1 hp
  rfl
theorem pcs_ok (n : Nat) (h : n < 100) : (pcs n).all (fun p => u64B p.f0 && u64B p.f1.f1) = true := by
  rw [List.all_eq_true]
  intro p hp
  obtain ⟨i, hi, rfl⟩ := List.mem_map.1 hp
  rw [List.mem_range] at hi
  have : u64B (i : Int) = true := by unfold u64B; rw [decide_eq_true (by omega), decide_eq_true (by omega)]; rfl
  show (u64B (i : Int) && u64B 0) = true
  rw [this]; rfl
theorem may_pcs (a0 a1 a2 a4 : Int) (n : Nat) (x : Nat) : mayL a0 a1 a2 a4 [] (pcs n) [] x = (decide (1 ≤ a0) && (decide (a0 ≤ 14) && (nodeB a1 && (nodeB a2 && (nodeB a4 && (decide ((n : Int) ≤ 6) && plainB x)))))) := by
  unfold mayL plainB
  have h1 : decide (((([] : List S70).length : Nat) : Int) ≤ 8) = true := by decide
  have h2 : decide (((([] : List S77).length : Nat) : Int) ≤ 16) = true := by decide
  have h3 : ([] : List S70).all mayU = true := rfl
  have h4 : sepS [] = true := rfl
  rw [pcs_may, pcs_len, h1, h2, h3, h4]
  simp only [Bool.true_and]
theorem okL_pcs (a0 a1 a2 a4 : Int) (n : Nat) (h : n < 100) (x : Nat) : okL a0 a1 a2 0 a4 [] 0 0 0 0 0 0 0 (pcs n) [] x = true := by
  unfold okL
  have h0 : u64B 0 = true := by decide
  rw [pcs_ok n h, h0]
  simp only [Bool.true_and, List.all_nil]
theorem sign_at (x : Nat) (w : World) : Calls Try.prog 55 #[.float .f64 x] w fun e w' => e = .returned (.bool (negF x)) ∧ w = w' := by
  unfold negF
  have HF := Go.Proofs.YtondgoabnmgcaaaO.R.bits_run x
  go_enter Try.func55, Try.ntmps55
  go_wp2
  go_ret
  exact ⟨rfl, rfl⟩
theorem plain_at (x : Nat) (w : World) : Calls Try.prog 17 #[.float .f64 x] w fun e w' => e = .returned (.bool (plainB x)) ∧ w = w' := by
  have hs := ge_self x
  have hp : plainB x = (geF x && !negF x) := rfl
  rw [hp]
  clear hp
  have HN := Aside0.mk (sign_at x)
  unfold geF at hs ⊢
  generalize negF x = b at HN ⊢
  go_enter Try.func17, Try.ntmps17
  go_wp2_with (go_at_call 55; refine (HN.out _).mono ?_; rintro e w' ⟨rfl, rfl⟩)
  all_goals
    go_ret
    refine ⟨?_, rfl⟩
    first | (simp_all; done) | (simp_all; omega)
theorem seal_ne (s : ByteArray) : (sealS s).toList.isEmpty = false := by
  have h4 : (sealS s).size = s.size + 4 := by
    unfold sealS
    rw [ByteArray.size_append, Go.Proofs.YtondgoabnmgcaaaG.Pure.four_size]
  rw [ByteArray.toList_eq]
  cases h : (sealS s).data.toList with
  | nil =>
    have : (sealS s).data.toList.length = (sealS s).size := Array.length_toList
    rw [h, h4] at this
    simp at this
  | cons a l => rfl
end Go.Proofs.Ytondgoabnmgcaaa.B
end
section
/- By hand: the walk of LetterMay (printed by lawmay.py). -/
namespace Go.Proofs.Ytondgoabnmgcaaa.B
open Go.RowKit Go.Proofs.YtondgoabnmgcaaaW.PrintWords Go.Proofs.YtondgoabnmgcaaaW.PrintLast Go.Proofs.YtondgoabnmgcaaaW.PrintMore
set_option linter.unusedSimpArgs false
set_option linter.unusedVariables false
theorem one_Lv (a0 a1 a2 a3 : Int) (A : Option Addr) (n c : Nat) (x : Nat) : (#[.int .i64 a0, .int .i64 a1, .int .i64 a2, .int .u64 0, .int .i64 a3, .slice none 0 0, .int .u64 0, .int .u64 0, .int .u64 0, .int .u64 0, .int .u64 0, .int .u64 0, .int .u64 0, .slice A n c, .slice none 0 0, .float .f64 x] : Array Value).all (·.oneCell') = true := by kernel_rfl
set_option maxRecDepth 100000 in
set_option maxHeartbeats 8000000 in
theorem lawmay_walk (a0 a1 a2 a3 m : Int) (x : Nat) (w : World) (hm : 0 ≤ m ∧ m < 256) :
    Calls Try.prog 5 #[.int .i64 a0, .int .i64 a1, .int .i64 a2, .int .i64 a3, .int .u8 m, .float .f64 x] w fun e w' => e = .returned (.bool true) ∧ Below w.heap.size w w' := by
  obtain ⟨n, hn⟩ : ∃ n : Nat, m % 20 = (n : Int) := ⟨(m % 20).toNat, by omega⟩
  have hm0 := hm.1
  have H20 : Aside0 (n < 20) := ⟨by omega⟩
  have hlen : (n : Int) ≤ 9223372036854775807 := by omega
  have si32 := si32
  have hwm : wrap64 m = m := by unfold wrap64; omega
  have htm : Int.tmod m 20 = (n : Int) := by rw [Int.tmod_eq_emod_of_nonneg (by omega)]; exact hn
  clear hm
  go_enter Try.func5, Try.ntmps5
  go_wp2_with (first
    | ((with_reducible refine gate_dst (N := 13) rfl ?_); refine box_event ?hg (N := 13) ?hd (cs := #[.int .i64 0, .int .i64 0, .int .i64 0, .int .u64 0, .int .i64 0, .slice none 0 0, .int .u64 0, .int .u64 0, .int .u64 0, .int .u64 0, .int .u64 0, .int .u64 0, .int .u64 0, .slice none 0 0, .slice none 0 0, .float .f64 0]) (t := 32) ?hr ?_; (case hd => rfl); (case hg => rfl); (case hr => first | (go_simp; done) | (go_simp; rfl)); intro g hg_ w1 hb_ hB_; have K0 := Aside0.mk hb_; have GE := Aside0.mk (Nat.le_of_eq hg_.symm); have B0 := Aside0.mk hB_; clear hg_ hb_ hB_)
    | ((with_reducible refine gate_store (t := 32) (p := 13) rfl ?_); go_loud (refine wpList_store_row rfl 32 (.tmp 13) (.tmp 24) rfl g #[.int .i64 a0, .int .i64 a1, .int .i64 a2, .int .u64 0, .int .i64 a3, .slice none 0 0, .int .u64 0, .int .u64 0, .int .u64 0, .int .u64 0, .int .u64 0, .int .u64 0, .int .u64 0, .slice none 0 0, .slice none 0 0, .float .f64 x] rfl rfl 32 #[.int .i64 0, .int .i64 0, .int .i64 0, .int .u64 0, .int .i64 0, .slice none 0 0, .int .u64 0, .int .u64 0, .int .u64 0, .int .u64 0, .int .u64 0, .int .u64 0, .int .u64 0, .slice none 0 0, .slice none 0 0, .float .f64 0] K0.out si32 rfl (one_Lv a0 a1 a2 a3 none 0 0 x) ?_); have K1 := Aside0.mk (setRow_heap w1 g #[.int .i64 0, .int .i64 0, .int .i64 0, .int .u64 0, .int .i64 0, .slice none 0 0, .int .u64 0, .int .u64 0, .int .u64 0, .int .u64 0, .int .u64 0, .int .u64 0, .int .u64 0, .slice none 0 0, .slice none 0 0, .float .f64 0] #[.int .i64 a0, .int .i64 a1, .int .i64 a2, .int .u64 0, .int .i64 a3, .slice none 0 0, .int .u64 0, .int .u64 0, .int .u64 0, .int .u64 0, .int .u64 0, .int .u64 0, .int .u64 0, .slice none 0 0, .slice none 0 0, .float .f64 x] 32 (0, 0) K0.out); have B1 := Aside0.mk (below_setRow B0.out GE.out #[.int .i64 a0, .int .i64 a1, .int .i64 a2, .int .u64 0, .int .i64 a3, .slice none 0 0, .int .u64 0, .int .u64 0, .int .u64 0, .int .u64 0, .int .u64 0, .int .u64 0, .int .u64 0, .slice none 0 0, .slice none 0 0, .float .f64 x]); generalize World.setRow w1 g _ = w2 at K1 B1 ⊢; clear K0 B0))
  go_loopw [14] (fun i wr => ∃ (j : Nat) (v : Value), i = .int .i64 j ∧ Aside0 (j ≤ n) ∧ Aside0 (wr.heap[g]? = some (.cells #[.int .i64 a0, .int .i64 a1, .int .i64 a2, .int .u64 0, .int .i64 a3, .slice none 0 0, .int .u64 0, .int .u64 0, .int .u64 0, .int .u64 0, .int .u64 0, .int .u64 0, .int .u64 0, v, .slice none 0 0, .float .f64 x] 32 (0, 0))) ∧ Aside0 (Kd.R k53 53 wr w.heap.size (fun b => b ≠ g) v (pcs j)) ∧ Aside0 (Below w.heap.size w wr))
    (fun i _ => n - (intOf i).toNat)
  case atStart => exact ⟨0, .slice none 0 0, rfl, ⟨Nat.zero_le _⟩, K1, ⟨Kd.R_nil _ _ _ _ _⟩, B1⟩
  case round =>
    obtain ⟨j, v, rfl, hj, K, HO, HB⟩ := hrel
    clear K1 B1
    by_cases hlt : j < n
    · have hpl := pcs_len j
      have HLE : Aside0 (((pcs j).length + 1) * 40 ≤ 140737488355328) := ⟨by rw [hpl]; have := H20.out; omega⟩
      have HP := Aside0.mk (pcs_succ j)
      have GL := Aside0.mk (blk_lt K.out)
      have hw : IntKind.u64.wrap (j : Int) = (j : Int) := by rw [IntKind.wrap_u64]; have := H20.out; omega
      clear hpl
      have z := fun i => blk_cell K.out i
      go_wp2_with (first
        | ((with_reducible refine gate_builtin (b := .append) (xs := #[.tmp 33, .tmp 37]) rfl ?_); at_builtin; go_loud (refine Kd.R_append k53 (w0 := wr) w.heap.size rfl (.tmp 33) (.tmp 37) 28 53 (.agg #[.int .u64 0, .int .i64 0, .int .u64 0, .string ⟨#[]⟩]) 40 rfl Try.underlying28 info53 rfl (by decide) (by omega) _ (pcs j) ⟨(j : Int), ⟨0, 0, ⟨#[]⟩⟩⟩ [.int .u64 (j : Int), .int .i64 0, .int .u64 0, .string ⟨#[]⟩] (fun b => b ≠ g) (fun _ => False) rfl rfl ?aP (fun _ hk => hk.elim) ?aF ?aO ?aB ?aS ?aL ?_); (case aP => exact k53_mkM _ _ _ ⟨(j : Int), ⟨0, 0, ⟨#[]⟩⟩⟩); (case aF => exact fun b hb => by have := GL.out; omega); (case aO => exact HO.out); (case aB => exact Below.refl _ _); (case aS => exact HB.out.size); (case aL => exact HLE.out); intro v1 w4 ho hb2 hg hat; rw [← HP.out] at ho; obtain ⟨A1, c1, rfl⟩ := Kd.R_slice ho; have HO4 := Aside0.mk ho; have K4 := Aside0.mk ((hg.block g GL.out (by intro e; have := (HO.out.1 g e.symm); exact absurd rfl this)).trans K.out); have HB4 := Aside0.mk (HB.out.trans hb2); have z4 := blk_cell K4.out 13; have zf4 := blk_frozen K4.out 13; clear ho hb2 hg hat z))
      go_roundw
      case rel => exact ⟨j + 1, .slice A1 (pcs (j + 1)).length c1, by go_num, ⟨hlt⟩, ⟨blk_put K4.out 13 _ rfl⟩, ⟨Kd.R_far (p := ⟨g, 13, none⟩) HO4.out (fun _ h => h) _⟩, ⟨below_set HB4.out GE.out⟩⟩
      case measure => have := H20.out; simp [intOf]; omega
    · obtain rfl : j = n := by have := hj.out; omega
      obtain ⟨A, c, rfl⟩ := Kd.R_slice HO.out
      have HME := Aside0.mk (may_pcs a0 a1 a2 a3 j x)
      have HOK := Aside0.mk (okL_pcs a0 a1 a2 a3 j (by have := H20.out; omega) x)
      have HR := Aside0.mk (Kd.R_reads' HO.out)
      cases hM : mayL a0 a1 a2 a3 [] (pcs j) [] x
      · have HM := Aside0.mk hM
        rw [hM] at HME
        clear hM
        go_wp2_with (first
          | (go_at_call 16; refine (one_at _ _).mono ?_; rintro e w' ⟨rfl, rfl⟩)
          | (go_at_call 17; refine (plain_at x _).mono ?_; rintro e w' ⟨rfl, rfl⟩)
          | (refine wpList_load_row rfl 32 (.tmp 13) rfl g rfl 32 #[.int .i64 a0, .int .i64 a1, .int .i64 a2, .int .u64 0, .int .i64 a3, .slice none 0 0, .int .u64 0, .int .u64 0, .int .u64 0, .int .u64 0, .int .u64 0, .int .u64 0, .int .u64 0, .slice A (pcs j).length c, .slice none 0 0, .float .f64 x] (0, 0) _ K.out Try.underlying32 rfl si32 ?_)
          | (go_at_call 14; refine (encode_no a0 a1 a2 0 a3 none 0 [] 0 0 0 0 0 0 0 A c (pcs j) none 0 [] x _ (C_nil _ _) (Nat.le_refl _) HR.out.2.2 HR.out.2.1 (C_nil _ _) (Nat.le_refl _) HM.out).mono ?_; rintro e w14 ⟨rfl, hb⟩; have K14 := Aside0.mk (blk_below K.out hb); have HR14 := Aside0.mk (Kd.C_below HR.out.2.2 hb); have B14 := Aside0.mk (below_step HB.out hb); clear hb)
          | (refine wpList_load_row rfl 32 (.tmp 13) rfl g rfl 32 #[.int .i64 a0, .int .i64 a1, .int .i64 a2, .int .u64 0, .int .i64 a3, .slice none 0 0, .int .u64 0, .int .u64 0, .int .u64 0, .int .u64 0, .int .u64 0, .int .u64 0, .int .u64 0, .slice A (pcs j).length c, .slice none 0 0, .float .f64 x] (0, 0) _ K14.out Try.underlying32 rfl si32 ?_)
          | (go_at_call 18; refine (may_at a0 a1 a2 0 a3 none 0 [] 0 0 0 0 0 0 0 A c (pcs j) none 0 [] x _ (C_nil _ _) (Nat.le_refl _) HR14.out HR.out.2.1 (C_nil _ _) (Nat.le_refl _)).mono ?_; rintro e w18 ⟨rfl, hb⟩; rw [HM.out]; have B18 := Aside0.mk (below_step B14.out hb); clear hb)
          | (go_at_call 8; refine (conventiclelaw15_shown.calls true _ rfl).mono ?_; rintro e w8 ⟨rfl, hb⟩; have B8 := Aside0.mk (below_step B18.out hb); clear hb))
        all_goals first
          | (go_ret; exact ⟨rfl, B8.out⟩)
          | (exfalso; have hh := HME.out.symm; simp only [Bool.and_eq_false_iff, decide_eq_false_iff_not] at hh; rcases hh with q | q | q | q | q | q | q <;> first | omega | contradiction | exact absurd (q.symm.trans (show (_ : Bool) = true by assumption)) (by decide))
      · have HM := Aside0.mk hM
        rw [hM] at HME
        clear hM
        go_wp2_with (first
          | (go_at_call 16; refine (one_at _ _).mono ?_; rintro e w' ⟨rfl, rfl⟩)
          | (go_at_call 17; refine (plain_at x _).mono ?_; rintro e w' ⟨rfl, rfl⟩)
          | (refine wpList_load_row rfl 32 (.tmp 13) rfl g rfl 32 #[.int .i64 a0, .int .i64 a1, .int .i64 a2, .int .u64 0, .int .i64 a3, .slice none 0 0, .int .u64 0, .int .u64 0, .int .u64 0, .int .u64 0, .int .u64 0, .int .u64 0, .int .u64 0, .slice A (pcs j).length c, .slice none 0 0, .float .f64 x] (0, 0) _ K.out Try.underlying32 rfl si32 ?_)
          | (go_at_call 14; refine (encode_ok a0 a1 a2 0 a3 none 0 [] 0 0 0 0 0 0 0 A c (pcs j) none 0 [] x _ (C_nil _ _) (Nat.le_refl _) HR.out.2.2 HR.out.2.1 (C_nil _ _) (Nat.le_refl _) HM.out HOK.out).mono ?_; rintro e w14 ⟨rfl, hb⟩; have hne := seal_ne (strOfNums (encL a0 a1 a2 0 a3 [] 0 0 0 0 0 0 0 (pcs j) [] x)); generalize sealS (strOfNums (encL a0 a1 a2 0 a3 [] 0 0 0 0 0 0 0 (pcs j) [] x)) = RS at hne ⊢; have K14 := Aside0.mk (blk_below K.out hb); have HR14 := Aside0.mk (Kd.C_below HR.out.2.2 hb); have B14 := Aside0.mk (below_step HB.out hb); clear hb)
          | (refine wpList_load_row rfl 32 (.tmp 13) rfl g rfl 32 #[.int .i64 a0, .int .i64 a1, .int .i64 a2, .int .u64 0, .int .i64 a3, .slice none 0 0, .int .u64 0, .int .u64 0, .int .u64 0, .int .u64 0, .int .u64 0, .int .u64 0, .int .u64 0, .slice A (pcs j).length c, .slice none 0 0, .float .f64 x] (0, 0) _ K14.out Try.underlying32 rfl si32 ?_)
          | (go_at_call 18; refine (may_at a0 a1 a2 0 a3 none 0 [] 0 0 0 0 0 0 0 A c (pcs j) none 0 [] x _ (C_nil _ _) (Nat.le_refl _) HR14.out HR.out.2.1 (C_nil _ _) (Nat.le_refl _)).mono ?_; rintro e w18 ⟨rfl, hb⟩; rw [HM.out]; have B18 := Aside0.mk (below_step B14.out hb); clear hb)
          | (go_at_call 8; refine (conventiclelaw15_shown.calls true _ rfl).mono ?_; rintro e w8 ⟨rfl, hb⟩; have B8 := Aside0.mk (below_step B18.out hb); clear hb))
        all_goals first
          | (go_ret; exact ⟨rfl, B8.out⟩)
          | (exfalso; have hh := HME.out.symm; simp only [Bool.and_eq_true, decide_eq_true_eq] at hh; obtain ⟨q1, q2, q3, q4, q5, q6, q7⟩ := hh; first | omega | contradiction)
end Go.Proofs.Ytondgoabnmgcaaa.B
end
section
/- The walk of LetterMay, in the row's form. -/
namespace Go.Proofs.Ytondgoabnmgcaaa.R
open Go.RowKit Go.Proofs.Ytondgoabnmgcaaa.B Go.Proofs.YtondgoabnmgcaaaW.PrintWords Go.Proofs.YtondgoabnmgcaaaW.PrintLast
theorem lawmay_row (a0 a1 a2 a3 a4 : Int) (a5 : Nat) (_ : (Lit.int .i64 a0).wf = true) (_ : (Lit.int .i64 a1).wf = true) (_ : (Lit.int .i64 a2).wf = true) (_ : (Lit.int .i64 a3).wf = true) (w4 : (Lit.int .u8 a4).wf = true) (_ : a5 < 18446744073709551616) (w : World) :
    Calls Try.prog 5 #[.int .i64 a0, .int .i64 a1, .int .i64 a2, .int .i64 a3, .int .u8 a4, .float .f64 a5] w fun e w' => e = .returned (.bool true) ∧ Below w.heap.size w w' := by
  refine lawmay_walk a0 a1 a2 a3 a4 a5 w ?_
  simp [Lit.wf, IntKind.min, IntKind.max, IntKind.signed, IntKind.bits] at w4
  omega
end Go.Proofs.Ytondgoabnmgcaaa.R
end
