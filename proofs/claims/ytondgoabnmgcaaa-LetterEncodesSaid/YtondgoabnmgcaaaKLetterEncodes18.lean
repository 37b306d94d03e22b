/- Texts of this claim, one behind the other (joined by pack.py): Door Decode Shown LawMayW MayIs Theirs Heavy BackP REnc. -/
import Derived.Test.YtondgoabnmgcaaaKLetterEncodes17
import Derived.Test.YtondgoabnmgcaaaKLetterEncodes12
import Derived.Tactics2
import Derived.Defers
import Derived.Recover
import Derived.Laws.Pointers
import Derived.Laws.CopyOwn
import Derived.Test.YtondgoabnmgcaaaKLetterEncodes8
import Derived.Test.YtondgoabnmgcaaaKLetterEncodes16
import Derived.Test.YtondgoabnmgcaaaKLetterEncodes11
import Derived.Test.YtondgoabnmgcaaaKLetterEncodes7
section
/- By hand: where letter.Decode stands, its deferred closure, and its ways out. -/
namespace Go.Proofs.Ytondgoabnmgcaaa.B
open Go.RowKit Go.Proofs.YtondgoabnmgcaaaW.PrintWords Go.Proofs.YtondgoabnmgcaaaW.PrintLast Go.Proofs.YtondgoabnmgcaaaW.PrintMore
open Go.Proofs.YtondgoabnmgcaaaO.B (IsS63)
open Go.Proofs.YtondgoabnmgcaaaO.R (rdv rdv_range rbits)
set_option linter.unusedSimpArgs false
set_option linter.unusedVariables false
abbrev zeroL : Array Value := #[.int .i64 0, .int .i64 0, .int .i64 0, .int .u64 0, .int .i64 0, .slice none 0 0, .int .u64 0, .int .u64 0, .int .u64 0, .int .u64 0, .int .u64 0, .int .u64 0, .int .u64 0, .slice none 0 0, .slice none 0 0, .float .f64 0]
theorem sizeL : (Try.prog.info? 32).map (·.size) = some zeroL.size := by kernel_rfl
theorem oneL : zeroL.all (·.oneCell') = true := by kernel_rfl
theorem catch_idle (p q : Addr) (w : World) :
    CallsD Try.prog 23 #[.pointer (some p), .pointer (some q)] .returning w fun e u' w' => e = .returned (.tuple #[]) ∧ u' = .returning ∧ w' = w := by
  refine callsD_of_wpS Try.func23 rfl fun c₀ cs hu => ?_
  apply wpS_seq
  apply wpS_region
  simp [wpOpsS, go_sem, recoverD, hu, Try.ntmps23, Exit.thenS]
  refine wpS_of_wp ?_
  go_wp2
  cases c₀
  simp_all [bodyPostS, results, Try.results23]
set_option maxRecDepth 100000 in
set_option maxHeartbeats 1000000 in
theorem catch_panic (g2 g3 : Nat) (er : Int) (cs : Array Value) (w : World) (hn : g2 ≠ g3) (h2 : w.heap[g2]? = some (.cells cs 32 (0, 0))) (hsz : cs.size = 16) (h3 : w.heap[g3]? = some (.cells #[.int .i64 0] 33 (0, 0))) :
    CallsD Try.prog 23 #[.pointer (some ⟨g2, 0, none⟩), .pointer (some ⟨g3, 0, none⟩)] (.panicking [{ v := .iface 33 (.int .i64 er), recovered := false }]) w fun e u' w' =>
      e = .returned (.tuple #[]) ∧ u' = .panicking [{ v := .iface 33 (.int .i64 er), recovered := true }] ∧ w' = (w.setRow g2 zeroL).setCell ⟨g3, 0, none⟩ (.int .i64 er) := by
  have hta : (Instr.typeAssert (.iface 33 (.int .i64 er)) 20 33 true).run Try.prog w = .ok (.tuple #[.int .i64 er, .bool true]) w := by
    first | kernel_rfl | rfl
  have K2 := Aside0.mk h2
  have K3 : (w.setRow g2 zeroL).heap[g3]? = some (.cells #[.int .i64 0] 33 (0, 0)) := (setRow_other w g2 g3 zeroL (Ne.symm hn)).trans h3
  have c3 := blk_cell K3 0
  have f3 := blk_frozen K3 0
  have hz : cs.size = (zeroL).size := by rw [hsz]; rfl
  have HZ := Aside0.mk hz
  clear h2 h3 K3 hn hsz hz
  refine callsD_of_wpS Try.func23 rfl fun c₀ cs' hu => ?_
  apply wpS_seq
  apply wpS_region
  simp [wpOpsS, go_sem, recoverD, hu, Try.ntmps23, Exit.thenS]
  refine wpS_of_wp ?_
  simp only [Array.replicate_succ, Array.replicate_zero, List.push_toArray, List.append_toArray, List.nil_append, List.cons_append, List.setIfInBounds_toArray, List.set_cons_zero, List.set_cons_succ]
  go_wp2_with ((with_reducible refine gate_store (t := 32) (p := 0) rfl ?_); go_loud (refine wpList_store_row rfl 32 (.tmp 0) (.tmp 11) rfl g2 zeroL rfl rfl 32 cs K2.out sizeL HZ.out oneL ?_))
  cases c₀
  simp_all [bodyPostS, results, Try.results23]
/-- where Decode stands: the reader, the letter, the error, the box of the reader; the rows of the letter -/
structure De (w0 W : World) (g g2 g3 g4 : Nat) (s : ByteArray) (q : Int) (cs : Array Value) (v5 v13 v14 : Value) (l5 : List S70) (l13 : List S53) (l14 : List S77) : Prop where
  I : IsS63 w0 W g s q
  B : Below w0.heap.size w0 W
  K2 : W.heap[g2]? = some (.cells cs 32 (0, 0))
  K3 : W.heap[g3]? = some (.cells #[.int .i64 0] 33 (0, 0))
  K4 : W.heap[g4]? = some (.cells #[.pointer (some ⟨g, 0, none⟩)] 65 (0, 0))
  n2 : g2 ≠ g
  n3 : g3 ≠ g
  n4 : g4 ≠ g
  n23 : g2 ≠ g3
  n24 : g2 ≠ g4
  l2 : w0.heap.size ≤ g2
  l3 : w0.heap.size ≤ g3
  sz : cs.size = 16
  R5 : Kd.R k70 70 W w0.heap.size (fun _ => True) v5 l5
  R13 : Kd.R k53 53 W w0.heap.size (fun _ => True) v13 l13
  R14 : Kd.R k77 77 W w0.heap.size (fun _ => True) v14 l14
section
variable {w0 W : World} {g g2 g3 g4 : Nat} {s : ByteArray} {q : Int} {cs : Array Value} {v5 v13 v14 : Value} {l5 : List S70} {l13 : List S53} {l14 : List S77}
theorem De.c2 (S : De w0 W g g2 g3 g4 s q cs v5 v13 v14 l5 l13 l14) (j : Nat) : W.cell? ⟨g2, j, none⟩ = cs[j]? := blk_cell S.K2 j
theorem De.f2 (S : De w0 W g g2 g3 g4 s q cs v5 v13 v14 l5 l13 l14) (j : Nat) : W.frozen? ⟨g2, j, none⟩ = false := blk_frozen S.K2 j
theorem De.call {W' : World} {q' : Int} (S : De w0 W g g2 g3 g4 s q cs v5 v13 v14 l5 l13 l14) (hI : IsS63 w0 W' g s q') (hB : Below w0.heap.size w0 W') (hK : KeepBut W W' g none) : De w0 W' g g2 g3 g4 s q' cs v5 v13 v14 l5 l13 l14 :=
  ⟨hI, hB, hK.blk S.K2 S.n2 (by simp), hK.blk S.K3 S.n3 (by simp), hK.blk S.K4 S.n4 (by simp), S.n2, S.n3, S.n4, S.n23, S.n24, S.l2, S.l3, S.sz,
    Kd.R_mono (Kd.R_keep (Kd.R_types S.R5 S.I.1 (by decide)) hK (fun _ h => h.2)) (fun _ _ => trivial), Kd.R_mono (Kd.R_keep (Kd.R_types S.R13 S.I.1 (by decide)) hK (fun _ h => h.2)) (fun _ _ => trivial), Kd.R_mono (Kd.R_keep (Kd.R_types S.R14 S.I.1 (by decide)) hK (fun _ h => h.2)) (fun _ _ => trivial)⟩
theorem De.put (S : De w0 W g g2 g3 g4 s q cs v5 v13 v14 l5 l13 l14) (j : Nat) (v : Value) : De w0 (W.setCell ⟨g2, j, none⟩ v) g g2 g3 g4 s q (cs.setIfInBounds j v) v5 v13 v14 l5 l13 l14 :=
  ⟨S.I.far (Ne.symm S.n2) v, below_set S.B S.l2, blk_put S.K2 j v rfl, blk_far (p := ⟨g2, j, none⟩) S.K3 (Ne.symm S.n23) v, blk_far (p := ⟨g2, j, none⟩) S.K4 (Ne.symm S.n24) v, S.n2, S.n3, S.n4, S.n23, S.n24, S.l2, S.l3, by rw [Array.size_setIfInBounds]; exact S.sz,
    Kd.R_mono (Kd.R_far (p := ⟨g2, j, none⟩) (Kd.R_types S.R5 S.K2 (by decide)) (fun _ h => h.2) v) (fun _ _ => trivial), Kd.R_mono (Kd.R_far (p := ⟨g2, j, none⟩) (Kd.R_types S.R13 S.K2 (by decide)) (fun _ h => h.2) v) (fun _ _ => trivial), Kd.R_mono (Kd.R_far (p := ⟨g2, j, none⟩) (Kd.R_types S.R14 S.K2 (by decide)) (fun _ h => h.2) v) (fun _ _ => trivial)⟩
theorem De.row5 (S : De w0 W g g2 g3 g4 s q cs v5 v13 v14 l5 l13 l14) {v : Value} {l : List S70} (h : Kd.R k70 70 W w0.heap.size (fun _ => True) v l) : De w0 W g g2 g3 g4 s q cs v v13 v14 l l13 l14 := ⟨S.I, S.B, S.K2, S.K3, S.K4, S.n2, S.n3, S.n4, S.n23, S.n24, S.l2, S.l3, S.sz, h, S.R13, S.R14⟩
theorem De.row13 (S : De w0 W g g2 g3 g4 s q cs v5 v13 v14 l5 l13 l14) {v : Value} {l : List S53} (h : Kd.R k53 53 W w0.heap.size (fun _ => True) v l) : De w0 W g g2 g3 g4 s q cs v5 v v14 l5 l l14 := ⟨S.I, S.B, S.K2, S.K3, S.K4, S.n2, S.n3, S.n4, S.n23, S.n24, S.l2, S.l3, S.sz, S.R5, h, S.R14⟩
theorem De.row14 (S : De w0 W g g2 g3 g4 s q cs v5 v13 v14 l5 l13 l14) {v : Value} {l : List S77} (h : Kd.R k77 77 W w0.heap.size (fun _ => True) v l) : De w0 W g g2 g3 g4 s q cs v5 v13 v l5 l13 l := ⟨S.I, S.B, S.K2, S.K3, S.K4, S.n2, S.n3, S.n4, S.n23, S.n24, S.l2, S.l3, S.sz, S.R5, S.R13, h⟩
end
/-- a letter, as Decode hands it back -/
def cellsL (x : S32) (v5 v13 v14 : Value) : Array Value := #[.int .i64 x.f0, .int .i64 x.f1, .int .i64 x.f2, .int .u64 x.f3, .int .i64 x.f4, v5, .int .u64 x.f6.f0, .int .u64 x.f6.f1, .int .u64 x.f7, .int .u64 x.f8, .int .u64 x.f9.f0, .int .u64 x.f9.f1, .int .u64 x.f10, v13, v14, .float .f64 x.f13]
def DPost (D : Except Int S32) (w0 : World) (e : Ending) (w' : World) : Prop :=
  Below w0.heap.size w0 w' ∧ match D with
  | .error er => e = .returned (.tuple #[.agg zeroL, .int .i64 er])
  | .ok x => ∃ v5 v13 v14, e = .returned (.tuple #[.agg (cellsL x v5 v13 v14), .int .i64 0]) ∧ Kd.R k70 70 w' w0.heap.size (fun _ => True) v5 x.f5 ∧ Kd.R k53 53 w' w0.heap.size (fun _ => True) v13 x.f11 ∧ Kd.R k77 77 w' w0.heap.size (fun _ => True) v14 x.f12
theorem results_dc {P : Program} {fn : Func} {p u : Tmp} {ty ty' : TypeId} {k : IntKind} {d : TypeDesc} (h : fn.results = #[.cell p ty, .cell u ty']) (tmps : Array Value) (w : World) (g g' : Nat) (cs : Array Value) (fr : Nat × Nat) (v' : Value)
    (hp : tmps.getD p undef = .pointer (some ⟨g, 0, none⟩)) (hq : tmps.getD u undef = .pointer (some ⟨g', 0, none⟩)) (hg : w.heap[g]? = some (.cells cs ty fr)) (hc' : w.cell? ⟨g', 0, none⟩ = some v')
    (hu : P.underlying ty = some d) (hd : (match d with | .struct _ | .array _ _ => true | _ => false) = true) (hi : (P.info? ty).map (·.size) = some cs.size) (hu' : P.underlying ty' = some (.int k)) :
    (results fn tmps).run P w = .ok (.tuple #[.agg cs, v']) w := by
  have hp' : tmps[p]?.getD undef = .pointer (some ⟨g, 0, none⟩) := by simpa using hp
  have hq' : tmps[u]?.getD undef = .pointer (some ⟨g', 0, none⟩) := by simpa using hq
  have h1 := run_loadVar_row (P := P) w g ty ty cs fr d hg hu hd hi
  have h2 : (loadVar ty' ⟨g', 0, none⟩).run P w = .ok v' w := by simp [loadVar, isAgg, run_underlying hu', hc']
  simp [results, h, hp', hq', asAddr, h1, h2]
/-- the way out behind a panic with an error, wherever -/
theorem door_bad (w0 W : World) (g2 g3 : Nat) (cs : Array Value) (D : Except Int S32) (er : Int) (T : Array Value) (hn : g2 ≠ g3) (hsz : cs.size = 16) (h2 : W.heap[g2]? = some (.cells cs 32 (0, 0))) (h3 : W.heap[g3]? = some (.cells #[.int .i64 0] 33 (0, 0)))
    (l2 : w0.heap.size ≤ g2) (l3 : w0.heap.size ≤ g3) (hB : Below w0.heap.size w0 W) (hD : D = .error er) (t2 : T.getD 2 undef = .pointer (some ⟨g2, 0, none⟩)) (t3 : T.getD 3 undef = .pointer (some ⟨g3, 0, none⟩)) :
    bodyPostD Try.prog Try.f10 (DPost D w0) (Exit.panic [{ v := .iface 33 (.int .i64 er), recovered := false }])
      { tmps := T, defers := [{ target := .fn (.func 23) #[.pointer (some ⟨g2, 0, none⟩), .pointer (some ⟨g3, 0, none⟩)], args := #[] }] } W := by
  refine leaves_cons (f := 23) (args := #[.pointer (some ⟨g2, 0, none⟩), .pointer (some ⟨g3, 0, none⟩)]) (by simp) (by simp [go_sem]) ?_
  refine (catch_panic g2 g3 er cs W hn h2 hsz h3).mono ?_
  rintro e u' w'' ⟨rfl, rfl, rfl⟩
  have R2 := setRow_heap W g2 cs zeroL 32 (0, 0) h2
  have R3 := (setRow_other W g2 g3 zeroL (Ne.symm hn)).trans h3
  have P2 := blk_far (p := ⟨g3, 0, none⟩) R2 hn (.int .i64 er)
  have P3 := blk_put R3 0 (.int .i64 er) rfl
  refine ⟨_, results_dc (by kernel_rfl) _ _ g2 g3 zeroL (0, 0) (.int .i64 er) t2 t3 P2 (blk_cell P3 0) Try.underlying32 rfl sizeL Try.underlying33, ?_⟩
  subst hD
  exact ⟨below_set (below_setRow hB l2 zeroL) l3, rfl⟩
/-- the way out where all went well -/
theorem door_ok (w0 W : World) (g2 g3 : Nat) (x : S32) (v5 v13 v14 : Value) (D : Except Int S32) (T : Array Value) (h2 : W.heap[g2]? = some (.cells (cellsL x v5 v13 v14) 32 (0, 0))) (h3 : W.heap[g3]? = some (.cells #[.int .i64 0] 33 (0, 0)))
    (hB : Below w0.heap.size w0 W) (hD : D = .ok x) (r5 : Kd.R k70 70 W w0.heap.size (fun _ => True) v5 x.f5) (r13 : Kd.R k53 53 W w0.heap.size (fun _ => True) v13 x.f11) (r14 : Kd.R k77 77 W w0.heap.size (fun _ => True) v14 x.f12)
    (t2 : T.getD 2 undef = .pointer (some ⟨g2, 0, none⟩)) (t3 : T.getD 3 undef = .pointer (some ⟨g3, 0, none⟩)) :
    bodyPostD Try.prog Try.f10 (DPost D w0) Exit.ret
      { tmps := T, defers := [{ target := .fn (.func 23) #[.pointer (some ⟨g2, 0, none⟩), .pointer (some ⟨g3, 0, none⟩)], args := #[] }] } W := by
  refine leaves_cons (f := 23) (args := #[.pointer (some ⟨g2, 0, none⟩), .pointer (some ⟨g3, 0, none⟩)]) (by simp) (by simp [go_sem]) ?_
  refine (catch_idle ⟨g2, 0, none⟩ ⟨g3, 0, none⟩ W).mono ?_
  rintro e u' w'' ⟨rfl, rfl, rfl⟩
  refine ⟨_, results_dc (by kernel_rfl) _ _ g2 g3 (cellsL x v5 v13 v14) (0, 0) (.int .i64 0) t2 t3 h2 (blk_cell h3 0) Try.underlying32 rfl (by kernel_rfl) Try.underlying33, ?_⟩
  subst hD
  exact ⟨hB, v5, v13, v14, rfl, r5, r13, r14⟩
end Go.Proofs.Ytondgoabnmgcaaa.B
end
section
/- By hand: letter.Decode (printed by decode.py). -/
namespace Go.Proofs.Ytondgoabnmgcaaa.B
open Go.RowKit Go.Proofs.YtondgoabnmgcaaaW.PrintWords Go.Proofs.YtondgoabnmgcaaaW.PrintLast Go.Proofs.YtondgoabnmgcaaaW.PrintMore
open Go.Proofs.YtondgoabnmgcaaaO.B (IsS63)
open Go.Proofs.YtondgoabnmgcaaaO.R (rdv rdv_range rbits Ours real_ours num_ok num_short)
set_option linter.unusedSimpArgs false
set_option linter.unusedVariables false
/-! what bytes are which letter, step by step -/
def loadF (s : ByteArray) (p : Nat) : Nat := (rbits (rdv s p 8).toNat).toNat
def letterOf (s : ByteArray) (l5 : List S70) (q : Nat) (l13 : List S53) (l14 : List S77) (q3 : Nat) : S32 :=
  ⟨rdv s 0 1, rdv s 1 1, rdv s 2 1, rdv s 3 8, rdv s 11 1, l5, ⟨rdv s q 8, rdv s (q + 8) 8⟩, rdv s (q + 16) 8, rdv s (q + 24) 8, ⟨rdv s (q + 32) 8, rdv s (q + 32 + 8) 8⟩, rdv s (q + 48) 8, l13, l14, loadF s q3⟩
def d16 (s : ByteArray) (l5 : List S70) (q : Nat) (l13 : List S53) (l14 : List S77) (q3 : Nat) : Except Int S32 :=
  if mayL (rdv s 0 1) (rdv s 1 1) (rdv s 2 1) (rdv s 11 1) l5 l13 l14 (loadF s q3) = false then .error 1 else .ok (letterOf s l5 q l13 l14 q3)
def d15 (s : ByteArray) (l5 : List S70) (q : Nat) (l13 : List S53) (l14 : List S77) (q3 : Nat) : Except Int S32 := if rdv s 0 1 < 1 ∨ 14 < rdv s 0 1 then .error 150 else d16 s l5 q l13 l14 q3
def d14 (s : ByteArray) (l5 : List S70) (q : Nat) (l13 : List S53) (l14 : List S77) (q3 : Nat) : Except Int S32 := if q3 + 8 < s.size then .error 11 else d15 s l5 q l13 l14 q3
def d13 (s : ByteArray) (l5 : List S70) (q : Nat) (l13 : List S53) (l14 : List S77) (q3 : Nat) : Except Int S32 := if s.size < q3 + 8 then .error 10 else d14 s l5 q l13 l14 q3
def d12 (s : ByteArray) (l5 : List S70) (q : Nat) (l13 : List S53) (q2 : Nat) : Except Int S32 := match listI s (itX s) 16 q2 with
  | .error e => .error e
  | .ok (l14, q3) => d13 s l5 q l13 l14 q3
def d11 (s : ByteArray) (l5 : List S70) (q : Nat) : Except Int S32 := match listI s (itP s) 6 (q + 56) with
  | .error e => .error e
  | .ok (l13, q2) => d12 s l5 q l13 q2
def d10 (s : ByteArray) (l5 : List S70) (q : Nat) : Except Int S32 := if s.size < q + 56 then .error 10 else d11 s l5 q
def d9 (s : ByteArray) (l5 : List S70) (q : Nat) : Except Int S32 := if s.size < q + 48 then .error 10 else d10 s l5 q
def d8 (s : ByteArray) (l5 : List S70) (q : Nat) : Except Int S32 := if s.size < q + 32 then .error 10 else d9 s l5 q
def d7 (s : ByteArray) (l5 : List S70) (q : Nat) : Except Int S32 := if s.size < q + 24 then .error 10 else d8 s l5 q
def d6 (s : ByteArray) (l5 : List S70) (q : Nat) : Except Int S32 := if s.size < q + 16 then .error 10 else d7 s l5 q
def d5 (s : ByteArray) : Except Int S32 := match listI s (itU s) 8 12 with
  | .error e => .error e
  | .ok (l5, q) => d6 s l5 q
def d4 (s : ByteArray) : Except Int S32 := if s.size < 12 then .error 10 else d5 s
def d3 (s : ByteArray) : Except Int S32 := if s.size < 11 then .error 10 else d4 s
def d2 (s : ByteArray) : Except Int S32 := if s.size < 3 then .error 10 else d3 s
def d1 (s : ByteArray) : Except Int S32 := if s.size < 2 then .error 10 else d2 s
def decP (s : ByteArray) : Except Int S32 := if s.size < 1 then .error 10 else d1 s
theorem except_or {ε α : Type} (x : Except ε α) : (∃ e, x = .error e) ∨ ∃ a, x = .ok a := by
  cases x with
  | error e => exact .inl ⟨e, rfl⟩
  | ok a => exact .inr ⟨a, rfl⟩
theorem view_bad (w0 w : World) (g : Nat) (s : ByteArray) (p : Nat) (hs : s.size < 4611686018427387904) (hp : p ≤ s.size) (h : s.size < p + 16) (hI : IsS63 w0 w g s p) (hB : Below w0.heap.size w0 w) :
    Calls Try.prog 31 #[.agg #[.pointer (some ⟨g, 0, none⟩)]] w fun e w' => e = bad 10 ∧ Below w0.heap.size w0 w' ∧ KeepBut w w' g none := by
  by_cases h1 : s.size < p + 8
  · exact view_bad0 w0 w g s p hs (by omega) h1 hI hB
  · exact view_bad1 w0 w g s p hs (by omega) h hI hB
theorem de_start {w w4 : World} {g g2 g3 g4 : Nat} {s : ByteArray} (I : IsS63 w w4 g s 0) (B : Below w.heap.size w w4) (K2 : w4.heap[g2]? = some (.cells zeroL 32 (0, 0))) (K3 : w4.heap[g3]? = some (.cells #[.int .i64 0] 33 (0, 0)))
    (K4 : w4.heap[g4]? = some (.cells #[.pointer none] 65 (0, 0))) (l2 : w.heap.size ≤ g2) (l3 : w.heap.size ≤ g3) (l4 : w.heap.size ≤ g4) (n23 : g2 ≠ g3) (n24 : g2 ≠ g4) (n34 : g3 ≠ g4) (n2 : g2 ≠ g) (n3 : g3 ≠ g) (n4 : g4 ≠ g) :
    De w (w4.setCell ⟨g4, 0, none⟩ (.pointer (some ⟨g, 0, none⟩))) g g2 g3 g4 s 0 zeroL (.slice none 0 0) (.slice none 0 0) (.slice none 0 0) [] [] [] :=
  ⟨I.far (Ne.symm n4) _, below_set B l4, blk_far (p := ⟨g4, 0, none⟩) K2 n24 _, blk_far (p := ⟨g4, 0, none⟩) K3 n34 _, blk_put K4 0 _ rfl, n2, n3, n4, n23, n24, l2, l3, rfl, Kd.R_nil _ _ _ _ _, Kd.R_nil _ _ _ _ _, Kd.R_nil _ _ _ _ _⟩
theorem real37_ok (w0 w : World) (g : Nat) (s : ByteArray) (p : Nat) (hs : s.size < 4611686018427387904) (h : p + 8 ≤ s.size) (hI : IsS63 w0 w g s p) (hB : Below w0.heap.size w0 w) :
    Calls Try.prog 37 #[.pointer (some ⟨g, 0, none⟩)] w fun e w' => e = .returned (.tuple #[.float .f64 (loadF s p), .int .i64 0]) ∧ IsS63 w0 w' g s ((p + 8 : Nat) : Int) ∧ Below w0.heap.size w0 w' ∧ KeepBut w w' g none := by
  have hn := num_ok s p 8 (by omega) (by omega) hs h
  have := real_ours w0 s p _ _ 0 10 hn g w hI hB
  exact this
theorem real37_bad (w0 w : World) (g : Nat) (s : ByteArray) (p : Nat) (hp : p ≤ s.size) (h : s.size < p + 8) (hI : IsS63 w0 w g s p) (hB : Below w0.heap.size w0 w) :
    Calls Try.prog 37 #[.pointer (some ⟨g, 0, none⟩)] w fun e w' => ∃ x, e = .returned (.tuple #[.float .f64 x, .int .i64 10]) ∧ Below w0.heap.size w0 w' ∧ KeepBut w w' g none := by
  have hn := num_short s p 8 (by omega) (by omega) hp h
  have := real_ours w0 s p _ _ 10 10 hn g w hI hB
  exact this.mono (fun e w' hh => ⟨_, hh.1, hh.2.2.1, hh.2.2.2⟩)
theorem end_more (w0 w : World) (g : Nat) (s : ByteArray) (p : Nat) (hs : s.size < 4611686018427387904) (h : p < s.size) (hI : IsS63 w0 w g s p) (hB : Below w0.heap.size w0 w) :
    Calls Try.prog 38 #[.pointer (some ⟨g, 0, none⟩)] w fun e w' => e = .returned (.int .i64 11) ∧ IsS63 w0 w' g s p ∧ Below w0.heap.size w0 w' ∧ KeepBut w w' g none := by
  refine Go.Proofs.YtondgoabnmgcaaaO.B.octet_Reader_End.calls g s p 11 s p w0 w hI hB ?_
  unfold Go.Proofs.YtondgoabnmgcaaaO.B.octet_Reader_End.f Go.Proofs.YtondgoabnmgcaaaO.B.octet_Reader_Left.f
  have : wrap64 ((s.size : Int) - p) = (s.size : Int) - p := by unfold wrap64; omega
  rw [this, Option.bind_some]
  exact if_pos (by show (s.size : Int) - p > 0; omega)
theorem end_done (w0 w : World) (g : Nat) (s : ByteArray) (p : Nat) (hs : s.size < 4611686018427387904) (h : p = s.size) (hI : IsS63 w0 w g s p) (hB : Below w0.heap.size w0 w) :
    Calls Try.prog 38 #[.pointer (some ⟨g, 0, none⟩)] w fun e w' => e = .returned (.int .i64 0) ∧ IsS63 w0 w' g s p ∧ Below w0.heap.size w0 w' ∧ KeepBut w w' g none := by
  refine Go.Proofs.YtondgoabnmgcaaaO.B.octet_Reader_End.calls g s p 0 s p w0 w hI hB ?_
  unfold Go.Proofs.YtondgoabnmgcaaaO.B.octet_Reader_End.f Go.Proofs.YtondgoabnmgcaaaO.B.octet_Reader_Left.f
  have : wrap64 ((s.size : Int) - p) = (s.size : Int) - p := by unfold wrap64; omega
  rw [this, Option.bind_some]
  exact if_neg (by show ¬ (s.size : Int) - p > 0; omega)
theorem row_step {w : World} {g : Nat} {cs : Array Value} {v : Value} {α : Type} {d : Kd α} {e base : Nat} {l : List α} (h : Kd.R d e w base (fun _ => True) v l) (hb : w.heap[g]? = some (.cells cs 32 (0, 0))) (ht : ∀ q, q ∈ e :: d.E → q ≠ 32) (cs' : Array Value) : Kd.R d e (w.setRow g cs') base (fun _ => True) v l :=
  Kd.R_mono (Kd.R_step (Kd.R_types h hb ht) (fun k hk _ => setRow_other w g k cs' hk.2)) (fun _ _ => trivial)
theorem De.below {w0 W W' : World} {g g2 g3 g4 : Nat} {s : ByteArray} {q : Int} {cs : Array Value} {v5 v13 v14 : Value} {l5 : List S70} {l13 : List S53} {l14 : List S77} (S : De w0 W g g2 g3 g4 s q cs v5 v13 v14 l5 l13 l14) (hb : Below W.heap.size W W') : De w0 W' g g2 g3 g4 s q cs v5 v13 v14 l5 l13 l14 :=
  S.call ⟨blk_below S.I.1 hb, S.I.2⟩ (below_step S.B hb) (KeepBut.of_below hb g none)
theorem run_store_float (P : Program) (w : World) (a : Addr) (m : Mode) (k : FloatKind) (n : Nat) : (store a (.float k n) m).run P w = stored P w a (.float k n) m := run_store P w a _ m rfl
attribute [local go_sem] run_store_float
theorem one_L (a0 a1 a2 a3 a4 : Int) (A5 : Option Addr) (n5 c5 : Nat) (a6 a7 a8 a9 a10 a11 a12 : Int) (A13 : Option Addr) (n13 c13 : Nat) (A14 : Option Addr) (n14 c14 : Nat) (a15 : Nat) :
    (#[.int .i64 a0, .int .i64 a1, .int .i64 a2, .int .u64 a3, .int .i64 a4, .slice A5 n5 c5, .int .u64 a6, .int .u64 a7, .int .u64 a8, .int .u64 a9, .int .u64 a10, .int .u64 a11, .int .u64 a12, .slice A13 n13 c13, .slice A14 n14 c14, .float .f64 a15] : Array Value).all (·.oneCell') = true := by kernel_rfl
set_option maxRecDepth 100000 in
set_option maxHeartbeats 4000000 in
theorem decode_walk (w : World) (t s : ByteArray) (hO : Go.Proofs.YtondgoabnmgcaaaG.B.guard_Open.f t = some (s, 0)) (hs : s.size < 4611686018427387904) : Calls Try.prog 10 #[.string t] w (DPost (decP s) w) := by
  have hmf : ∀ (fn : Fn) (first cap : Array Value) (w : World), (Instr.makeFunc fn first cap).run Try.prog w = .ok (.func fn first cap) w := fun _ _ _ _ => rfl
  have HO := Aside0.mk hO
  have size65 := size65
  have HS := Aside0.mk hs
  obtain ⟨D, hD⟩ : ∃ D, D = decP s := ⟨_, rfl⟩
  rw [← hD]
  have HD := Aside0.mk hD
  clear hD
  have HQ : Aside0 (0 ≤ s.size) := ⟨Nat.zero_le _⟩
  clear hO hs
  go_enter_defers Try.func10, Try.ntmps10
  go_wp2_with (first
    | ((with_reducible refine gate_dst (N := 2) rfl ?_); refine box_event ?hg (N := 2) ?hd (cs := #[.int .i64 0, .int .i64 0, .int .i64 0, .int .u64 0, .int .i64 0, .slice none 0 0, .int .u64 0, .int .u64 0, .int .u64 0, .int .u64 0, .int .u64 0, .int .u64 0, .int .u64 0, .slice none 0 0, .slice none 0 0, .float .f64 0]) (t := 32) ?hr ?_; (case hd => rfl); (case hg => rfl); (case hr => first | (go_simp; done) | (go_simp; rfl)); intro g2 hg_ w1 hb_ hB_; have K2 := Aside0.mk hb_; have B1 := Aside0.mk hB_; have L2 := Aside0.mk (Nat.le_of_eq hg_.symm); clear hg_ hb_ hB_)
    | ((with_reducible refine gate_dst (N := 3) rfl ?_); refine box_event ?hg (N := 3) ?hd (cs := #[.int .i64 0]) (t := 33) ?hr ?_; (case hd => rfl); (case hg => rfl); (case hr => first | (go_simp; done) | (go_simp; rfl)); intro g3 hg_ w2 hb_ hB_; have K3 := Aside0.mk hb_; have K2b := Aside0.mk (blk_below K2.out hB_); have L3 := Aside0.mk (show w.heap.size ≤ g3 by have := B1.out.size; omega); have N23 := Aside0.mk (show g2 ≠ g3 by have := blk_lt K2.out; omega); have B2 := Aside0.mk (below_step B1.out hB_); clear hg_ hb_ hB_ K2 B1)
    | (go_at_call 26; refine (Go.Proofs.YtondgoabnmgcaaaG.B.guard_Open.calls t s 0 _ HO.out).mono ?_; rintro e w3 ⟨rfl, hb⟩; have K2c := Aside0.mk (blk_below K2b.out hb); have K3c := Aside0.mk (blk_below K3.out hb); have B3 := Aside0.mk (below_step B2.out hb); clear hb K2b K3 B2)
    | (go_at_call 25; refine (must_str_ok s _).mono ?_; rintro e w4 ⟨rfl, rfl⟩)
    | (go_at_call 24; refine (Go.Proofs.YtondgoabnmgcaaaO.B.octet_New.calls s s 0 w _ B3.out rfl).mono ?_; rintro e w5 ⟨g, rfl, hi, hb, hb2⟩; have I5 := Aside0.mk hi; have K2d := Aside0.mk (blk_below K2c.out hb2); have K3d := Aside0.mk (blk_below K3c.out hb2); have N2 := Aside0.mk (show g2 ≠ g from fun e => by subst e; have := K2d.out.symm.trans hi.1; injection this with this; injection this with _ this; exact absurd this (by decide)); have N3 := Aside0.mk (show g3 ≠ g from fun e => by subst e; have := K3d.out.symm.trans hi.1; injection this with this; injection this with _ this; exact absurd this (by decide)); have B5 := Aside0.mk hb; clear hi hb hb2 K2c K3c B3)
    | ((with_reducible refine gate_dst (N := 4) rfl ?_); refine box_event ?hg (N := 4) ?hd (cs := #[.pointer none]) (t := 65) ?hr ?_; (case hd => rfl); (case hg => rfl); (case hr => first | (go_simp; done) | (go_simp; rfl)); intro g4 hg_ w6 hb_ hB_; have I6 := Aside0.mk (show IsS63 w w6 g s 0 from ⟨blk_below I5.out.1 hB_, I5.out.2⟩); have B6 := Aside0.mk (below_step B5.out hB_); have K2e := Aside0.mk (blk_below K2d.out hB_); have K3e := Aside0.mk (blk_below K3d.out hB_); have N4 := Aside0.mk (show g2 ≠ g4 ∧ g3 ≠ g4 ∧ g4 ≠ g ∧ w.heap.size ≤ g4 from ⟨by have := blk_lt K2d.out; omega, by have := blk_lt K3d.out; omega, by have := blk_lt I5.out.1; omega, by have := B5.out.size; omega⟩); have z := blk_cell hb_ 0; have zf := blk_frozen hb_ 0; have S0 := Aside0.mk (de_start I6.out B6.out K2e.out K3e.out hb_ L2.out L3.out N4.out.2.2.2 N23.out N4.out.1 N4.out.2.1 N2.out N3.out N4.out.2.2.1); clear hg_ hb_ hB_ I5 B5 K2d K3d)
    | (refine wpList_load_row rfl 65 (.tmp 4) rfl g4 rfl 65 #[.pointer (some ⟨g, 0, none⟩)] (0, 0) _ (S0.out).K4 Try.underlying65 rfl size65 ?_; have T0 : Aside0 (De w _ g g2 g3 g4 s _ #[.int .i64 0, .int .i64 0, .int .i64 0, .int .u64 0, .int .i64 0, .slice none 0 0, .int .u64 0, .int .u64 0, .int .u64 0, .int .u64 0, .int .u64 0, .int .u64 0, .int .u64 0, .slice none 0 0, .slice none 0 0, .float .f64 0] _ _ _ _ _ _) := ⟨S0.out⟩; generalize World.setCell _ _ _ = wa0 at T0 ⊢; (try clear z); (try clear zf); clear S0)
    | (go_at_call 27; refine Classical.byCases (p := s.size < 1) (fun hN => by (refine (small_bad w _ g s 0 (by have := HQ.out; omega) (by omega) T0.out.I T0.out.B).mono ?_; rintro e w' ⟨rfl, hb, hk⟩; exact door_bad w _ g2 g3 _ D 10 _ N23.out T0.out.sz (hk.blk T0.out.K2 T0.out.n2 (by simp)) (hk.blk T0.out.K3 T0.out.n3 (by simp)) L2.out L3.out hb (by rw [HD.out]; exact if_pos hN) rfl rfl)) (fun hN => ?_); have HE : Aside0 (D = d1 s) := ⟨by rw [HD.out]; exact if_neg hN⟩; have HR : Aside0 (1 ≤ s.size) := ⟨by omega⟩; clear HD HQ hN; have HD := HE; have HQ := HR; clear HE HR; refine (small_ok w _ g s 0 HS.out (by have := HQ.out; omega) T0.out.I T0.out.B).mono ?_; rintro e wb0 ⟨rfl, hi, hb, hk⟩; have S1 := Aside0.mk (T0.out.call hi hb hk); have z := S1.out.c2 0; have zf := S1.out.f2 0; clear hi hb hk T0)
    | (refine wpList_load_row rfl 65 (.tmp 4) rfl g4 rfl 65 #[.pointer (some ⟨g, 0, none⟩)] (0, 0) _ (S1.out.put 0 (.int .i64 (rdv s 0 1))).K4 Try.underlying65 rfl size65 ?_; have T1 : Aside0 (De w _ g g2 g3 g4 s _ #[.int .i64 (rdv s 0 1), .int .i64 0, .int .i64 0, .int .u64 0, .int .i64 0, .slice none 0 0, .int .u64 0, .int .u64 0, .int .u64 0, .int .u64 0, .int .u64 0, .int .u64 0, .int .u64 0, .slice none 0 0, .slice none 0 0, .float .f64 0] _ _ _ _ _ _) := ⟨S1.out.put 0 (.int .i64 (rdv s 0 1))⟩; generalize World.setCell _ _ _ = wa1 at T1 ⊢; (try clear z); (try clear zf); clear S1)
    | (go_at_call 27; refine Classical.byCases (p := s.size < 2) (fun hN => by (refine (small_bad w _ g s 1 (by have := HQ.out; omega) (by omega) T1.out.I T1.out.B).mono ?_; rintro e w' ⟨rfl, hb, hk⟩; exact door_bad w _ g2 g3 _ D 10 _ N23.out T1.out.sz (hk.blk T1.out.K2 T1.out.n2 (by simp)) (hk.blk T1.out.K3 T1.out.n3 (by simp)) L2.out L3.out hb (by rw [HD.out]; exact if_pos hN) rfl rfl)) (fun hN => ?_); have HE : Aside0 (D = d2 s) := ⟨by rw [HD.out]; exact if_neg hN⟩; have HR : Aside0 (2 ≤ s.size) := ⟨by omega⟩; clear HD HQ hN; have HD := HE; have HQ := HR; clear HE HR; refine (small_ok w _ g s 1 HS.out (by have := HQ.out; omega) T1.out.I T1.out.B).mono ?_; rintro e wb1 ⟨rfl, hi, hb, hk⟩; have S2 := Aside0.mk (T1.out.call hi hb hk); have z := S2.out.c2 1; have zf := S2.out.f2 1; clear hi hb hk T1)
    | (refine wpList_load_row rfl 65 (.tmp 4) rfl g4 rfl 65 #[.pointer (some ⟨g, 0, none⟩)] (0, 0) _ (S2.out.put 1 (.int .i64 (rdv s 1 1))).K4 Try.underlying65 rfl size65 ?_; have T2 : Aside0 (De w _ g g2 g3 g4 s _ #[.int .i64 (rdv s 0 1), .int .i64 (rdv s 1 1), .int .i64 0, .int .u64 0, .int .i64 0, .slice none 0 0, .int .u64 0, .int .u64 0, .int .u64 0, .int .u64 0, .int .u64 0, .int .u64 0, .int .u64 0, .slice none 0 0, .slice none 0 0, .float .f64 0] _ _ _ _ _ _) := ⟨S2.out.put 1 (.int .i64 (rdv s 1 1))⟩; generalize World.setCell _ _ _ = wa2 at T2 ⊢; (try clear z); (try clear zf); clear S2)
    | (go_at_call 27; refine Classical.byCases (p := s.size < 3) (fun hN => by (refine (small_bad w _ g s 2 (by have := HQ.out; omega) (by omega) T2.out.I T2.out.B).mono ?_; rintro e w' ⟨rfl, hb, hk⟩; exact door_bad w _ g2 g3 _ D 10 _ N23.out T2.out.sz (hk.blk T2.out.K2 T2.out.n2 (by simp)) (hk.blk T2.out.K3 T2.out.n3 (by simp)) L2.out L3.out hb (by rw [HD.out]; exact if_pos hN) rfl rfl)) (fun hN => ?_); have HE : Aside0 (D = d3 s) := ⟨by rw [HD.out]; exact if_neg hN⟩; have HR : Aside0 (3 ≤ s.size) := ⟨by omega⟩; clear HD HQ hN; have HD := HE; have HQ := HR; clear HE HR; refine (small_ok w _ g s 2 HS.out (by have := HQ.out; omega) T2.out.I T2.out.B).mono ?_; rintro e wb2 ⟨rfl, hi, hb, hk⟩; have S3 := Aside0.mk (T2.out.call hi hb hk); have z := S3.out.c2 2; have zf := S3.out.f2 2; clear hi hb hk T2)
    | (refine wpList_load_row rfl 65 (.tmp 4) rfl g4 rfl 65 #[.pointer (some ⟨g, 0, none⟩)] (0, 0) _ (S3.out.put 2 (.int .i64 (rdv s 2 1))).K4 Try.underlying65 rfl size65 ?_; have T3 : Aside0 (De w _ g g2 g3 g4 s _ #[.int .i64 (rdv s 0 1), .int .i64 (rdv s 1 1), .int .i64 (rdv s 2 1), .int .u64 0, .int .i64 0, .slice none 0 0, .int .u64 0, .int .u64 0, .int .u64 0, .int .u64 0, .int .u64 0, .int .u64 0, .int .u64 0, .slice none 0 0, .slice none 0 0, .float .f64 0] _ _ _ _ _ _) := ⟨S3.out.put 2 (.int .i64 (rdv s 2 1))⟩; generalize World.setCell _ _ _ = wa3 at T3 ⊢; (try clear z); (try clear zf); clear S3)
    | (go_at_call 28; refine Classical.byCases (p := s.size < 11) (fun hN => by (refine (large_bad w _ g s 3 (by have := HQ.out; omega) (by omega) T3.out.I T3.out.B).mono ?_; rintro e w' ⟨rfl, hb, hk⟩; exact door_bad w _ g2 g3 _ D 10 _ N23.out T3.out.sz (hk.blk T3.out.K2 T3.out.n2 (by simp)) (hk.blk T3.out.K3 T3.out.n3 (by simp)) L2.out L3.out hb (by rw [HD.out]; exact if_pos hN) rfl rfl)) (fun hN => ?_); have HE : Aside0 (D = d4 s) := ⟨by rw [HD.out]; exact if_neg hN⟩; have HR : Aside0 (11 ≤ s.size) := ⟨by omega⟩; clear HD HQ hN; have HD := HE; have HQ := HR; clear HE HR; refine (large_ok w _ g s 3 HS.out (by have := HQ.out; omega) T3.out.I T3.out.B).mono ?_; rintro e wb3 ⟨rfl, hi, hb, hk⟩; have S4 := Aside0.mk (T3.out.call hi hb hk); have z := S4.out.c2 3; have zf := S4.out.f2 3; clear hi hb hk T3)
    | (refine wpList_load_row rfl 65 (.tmp 4) rfl g4 rfl 65 #[.pointer (some ⟨g, 0, none⟩)] (0, 0) _ (S4.out.put 3 (.int .u64 (rdv s 3 8))).K4 Try.underlying65 rfl size65 ?_; have T4 : Aside0 (De w _ g g2 g3 g4 s _ #[.int .i64 (rdv s 0 1), .int .i64 (rdv s 1 1), .int .i64 (rdv s 2 1), .int .u64 (rdv s 3 8), .int .i64 0, .slice none 0 0, .int .u64 0, .int .u64 0, .int .u64 0, .int .u64 0, .int .u64 0, .int .u64 0, .int .u64 0, .slice none 0 0, .slice none 0 0, .float .f64 0] _ _ _ _ _ _) := ⟨S4.out.put 3 (.int .u64 (rdv s 3 8))⟩; generalize World.setCell _ _ _ = wa4 at T4 ⊢; (try clear z); (try clear zf); clear S4)
    | (go_at_call 27; refine Classical.byCases (p := s.size < 12) (fun hN => by (refine (small_bad w _ g s 11 (by have := HQ.out; omega) (by omega) T4.out.I T4.out.B).mono ?_; rintro e w' ⟨rfl, hb, hk⟩; exact door_bad w _ g2 g3 _ D 10 _ N23.out T4.out.sz (hk.blk T4.out.K2 T4.out.n2 (by simp)) (hk.blk T4.out.K3 T4.out.n3 (by simp)) L2.out L3.out hb (by rw [HD.out]; exact if_pos hN) rfl rfl)) (fun hN => ?_); have HE : Aside0 (D = d5 s) := ⟨by rw [HD.out]; exact if_neg hN⟩; have HR : Aside0 (12 ≤ s.size) := ⟨by omega⟩; clear HD HQ hN; have HD := HE; have HQ := HR; clear HE HR; refine (small_ok w _ g s 11 HS.out (by have := HQ.out; omega) T4.out.I T4.out.B).mono ?_; rintro e wb4 ⟨rfl, hi, hb, hk⟩; have S5 := Aside0.mk (T4.out.call hi hb hk); have z := S5.out.c2 4; have zf := S5.out.f2 4; clear hi hb hk T4)
    | (refine wpList_load_row rfl 65 (.tmp 4) rfl g4 rfl 65 #[.pointer (some ⟨g, 0, none⟩)] (0, 0) _ (S5.out.put 4 (.int .i64 (rdv s 11 1))).K4 Try.underlying65 rfl size65 ?_; have T5 : Aside0 (De w _ g g2 g3 g4 s _ #[.int .i64 (rdv s 0 1), .int .i64 (rdv s 1 1), .int .i64 (rdv s 2 1), .int .u64 (rdv s 3 8), .int .i64 (rdv s 11 1), .slice none 0 0, .int .u64 0, .int .u64 0, .int .u64 0, .int .u64 0, .int .u64 0, .int .u64 0, .int .u64 0, .slice none 0 0, .slice none 0 0, .float .f64 0] _ _ _ _ _ _) := ⟨S5.out.put 4 (.int .i64 (rdv s 11 1))⟩; generalize World.setCell _ _ _ = wa5 at T5 ⊢; (try clear z); (try clear zf); clear S5)
    | (refine wpList_load_row rfl 65 (.tmp 4) rfl g4 rfl 65 #[.pointer (some ⟨g, 0, none⟩)] (0, 0) _ T5.out.K4 Try.underlying65 rfl size65 ?_)
    | (go_at_call 29; refine Or.elim (except_or (listI s (itU s) 8 12)) (fun hN => by (obtain ⟨er, hL⟩ := hN; refine (upd_list_bad w _ g s 12 8 (by have := HQ.out; omega) HS.out T5.out.I T5.out.B er hL).mono ?_; rintro e w' ⟨rfl, hb, hk⟩; exact door_bad w _ g2 g3 _ D er _ N23.out T5.out.sz (hk.blk T5.out.K2 T5.out.n2 (by simp)) (hk.blk T5.out.K3 T5.out.n3 (by simp)) L2.out L3.out hb (by rw [HD.out]; unfold d5; rw [hL]) rfl rfl)) (fun hN => ?_); obtain ⟨⟨l5, q⟩, hL⟩ := hN; have HE : Aside0 (D = d6 s l5 q) := ⟨by rw [HD.out]; unfold d5; rw [hL]⟩; have HL5 := Aside0.mk hL; clear hL HD; have HD := HE; clear HE; refine (upd_list_ok w _ g s 12 8 (by have := HQ.out; omega) HS.out T5.out.I T5.out.B l5 q HL5.out).mono ?_; rintro e wb5 ⟨v, rfl, ho, hi, hq, hb, hk⟩; obtain ⟨A5, c5, rfl⟩ := Kd.R_slice ho; have HR : Aside0 (q ≤ s.size) := ⟨hq⟩; clear HQ; have HQ := HR; clear HR; have S6 := Aside0.mk ((T5.out.call hi hb hk).row5 (Kd.R_mono (Kd.R_lower ho T5.out.B.size) (fun _ _ => trivial))); have z := S6.out.c2 5; have zf := S6.out.f2 5; clear hi hb hk ho hq T5)
    | (refine wpList_load_row rfl 65 (.tmp 4) rfl g4 rfl 65 #[.pointer (some ⟨g, 0, none⟩)] (0, 0) _ (S6.out.put 5 (.slice A5 l5.length c5)).K4 Try.underlying65 rfl size65 ?_; have T6 : Aside0 (De w _ g g2 g3 g4 s _ #[.int .i64 (rdv s 0 1), .int .i64 (rdv s 1 1), .int .i64 (rdv s 2 1), .int .u64 (rdv s 3 8), .int .i64 (rdv s 11 1), .slice A5 l5.length c5, .int .u64 0, .int .u64 0, .int .u64 0, .int .u64 0, .int .u64 0, .int .u64 0, .int .u64 0, .slice none 0 0, .slice none 0 0, .float .f64 0] _ _ _ _ _ _) := ⟨S6.out.put 5 (.slice A5 l5.length c5)⟩; generalize World.setCell _ _ _ = wa6 at T6 ⊢; (try clear z); (try clear zf); clear S6)
    | (go_at_call 31; refine Classical.byCases (p := s.size < q + 16) (fun hN => by (refine (view_bad w _ g s q HS.out (by have := HQ.out; omega) (by omega) T6.out.I T6.out.B).mono ?_; rintro e w' ⟨rfl, hb, hk⟩; exact door_bad w _ g2 g3 _ D 10 _ N23.out T6.out.sz (hk.blk T6.out.K2 T6.out.n2 (by simp)) (hk.blk T6.out.K3 T6.out.n3 (by simp)) L2.out L3.out hb (by rw [HD.out]; exact if_pos hN) rfl rfl)) (fun hN => ?_); have HE : Aside0 (D = d7 s l5 q) := ⟨by rw [HD.out]; exact if_neg hN⟩; have HR : Aside0 (q + 16 ≤ s.size) := ⟨by omega⟩; clear HD HQ hN; have HD := HE; have HQ := HR; clear HE HR; refine (view_ok w _ g s q HS.out (by have := HQ.out; omega) T6.out.I T6.out.B).mono ?_; rintro e wb6 ⟨rfl, hi, hb, hk⟩; have S7 := Aside0.mk (T6.out.call hi hb hk); have z := fun j => S7.out.c2 j; have zf := fun j => S7.out.f2 j; clear hi hb hk T6)
    | (refine wpList_load_row rfl 65 (.tmp 4) rfl g4 rfl 65 #[.pointer (some ⟨g, 0, none⟩)] (0, 0) _ ((S7.out.put 6 (.int .u64 (rdv s q 8))).put 7 (.int .u64 (rdv s (q + 8) 8))).K4 Try.underlying65 rfl size65 ?_; have T7 : Aside0 (De w _ g g2 g3 g4 s _ #[.int .i64 (rdv s 0 1), .int .i64 (rdv s 1 1), .int .i64 (rdv s 2 1), .int .u64 (rdv s 3 8), .int .i64 (rdv s 11 1), .slice A5 l5.length c5, .int .u64 (rdv s q 8), .int .u64 (rdv s (q + 8) 8), .int .u64 0, .int .u64 0, .int .u64 0, .int .u64 0, .int .u64 0, .slice none 0 0, .slice none 0 0, .float .f64 0] _ _ _ _ _ _) := ⟨(S7.out.put 6 (.int .u64 (rdv s q 8))).put 7 (.int .u64 (rdv s (q + 8) 8))⟩; generalize World.setCell _ _ _ = wa7 at T7 ⊢; (try clear z); (try clear zf); clear S7)
    | (go_at_call 28; refine Classical.byCases (p := s.size < q + 24) (fun hN => by (refine (large_bad w _ g s (q + 16) (by have := HQ.out; omega) (by omega) T7.out.I T7.out.B).mono ?_; rintro e w' ⟨rfl, hb, hk⟩; exact door_bad w _ g2 g3 _ D 10 _ N23.out T7.out.sz (hk.blk T7.out.K2 T7.out.n2 (by simp)) (hk.blk T7.out.K3 T7.out.n3 (by simp)) L2.out L3.out hb (by rw [HD.out]; exact if_pos hN) rfl rfl)) (fun hN => ?_); have HE : Aside0 (D = d8 s l5 q) := ⟨by rw [HD.out]; exact if_neg hN⟩; have HR : Aside0 (q + 24 ≤ s.size) := ⟨by omega⟩; clear HD HQ hN; have HD := HE; have HQ := HR; clear HE HR; refine (large_ok w _ g s (q + 16) HS.out (by have := HQ.out; omega) T7.out.I T7.out.B).mono ?_; rintro e wb7 ⟨rfl, hi, hb, hk⟩; have S8 := Aside0.mk (T7.out.call hi hb hk); have z := S8.out.c2 8; have zf := S8.out.f2 8; clear hi hb hk T7)
    | (refine wpList_load_row rfl 65 (.tmp 4) rfl g4 rfl 65 #[.pointer (some ⟨g, 0, none⟩)] (0, 0) _ (S8.out.put 8 (.int .u64 (rdv s (q + 16) 8))).K4 Try.underlying65 rfl size65 ?_; have T8 : Aside0 (De w _ g g2 g3 g4 s _ #[.int .i64 (rdv s 0 1), .int .i64 (rdv s 1 1), .int .i64 (rdv s 2 1), .int .u64 (rdv s 3 8), .int .i64 (rdv s 11 1), .slice A5 l5.length c5, .int .u64 (rdv s q 8), .int .u64 (rdv s (q + 8) 8), .int .u64 (rdv s (q + 16) 8), .int .u64 0, .int .u64 0, .int .u64 0, .int .u64 0, .slice none 0 0, .slice none 0 0, .float .f64 0] _ _ _ _ _ _) := ⟨S8.out.put 8 (.int .u64 (rdv s (q + 16) 8))⟩; generalize World.setCell _ _ _ = wa8 at T8 ⊢; (try clear z); (try clear zf); clear S8)
    | (go_at_call 28; refine Classical.byCases (p := s.size < q + 32) (fun hN => by (refine (large_bad w _ g s (q + 24) (by have := HQ.out; omega) (by omega) T8.out.I T8.out.B).mono ?_; rintro e w' ⟨rfl, hb, hk⟩; exact door_bad w _ g2 g3 _ D 10 _ N23.out T8.out.sz (hk.blk T8.out.K2 T8.out.n2 (by simp)) (hk.blk T8.out.K3 T8.out.n3 (by simp)) L2.out L3.out hb (by rw [HD.out]; exact if_pos hN) rfl rfl)) (fun hN => ?_); have HE : Aside0 (D = d9 s l5 q) := ⟨by rw [HD.out]; exact if_neg hN⟩; have HR : Aside0 (q + 32 ≤ s.size) := ⟨by omega⟩; clear HD HQ hN; have HD := HE; have HQ := HR; clear HE HR; refine (large_ok w _ g s (q + 24) HS.out (by have := HQ.out; omega) T8.out.I T8.out.B).mono ?_; rintro e wb8 ⟨rfl, hi, hb, hk⟩; have S9 := Aside0.mk (T8.out.call hi hb hk); have z := S9.out.c2 9; have zf := S9.out.f2 9; clear hi hb hk T8)
    | (refine wpList_load_row rfl 65 (.tmp 4) rfl g4 rfl 65 #[.pointer (some ⟨g, 0, none⟩)] (0, 0) _ (S9.out.put 9 (.int .u64 (rdv s (q + 24) 8))).K4 Try.underlying65 rfl size65 ?_; have T9 : Aside0 (De w _ g g2 g3 g4 s _ #[.int .i64 (rdv s 0 1), .int .i64 (rdv s 1 1), .int .i64 (rdv s 2 1), .int .u64 (rdv s 3 8), .int .i64 (rdv s 11 1), .slice A5 l5.length c5, .int .u64 (rdv s q 8), .int .u64 (rdv s (q + 8) 8), .int .u64 (rdv s (q + 16) 8), .int .u64 (rdv s (q + 24) 8), .int .u64 0, .int .u64 0, .int .u64 0, .slice none 0 0, .slice none 0 0, .float .f64 0] _ _ _ _ _ _) := ⟨S9.out.put 9 (.int .u64 (rdv s (q + 24) 8))⟩; generalize World.setCell _ _ _ = wa9 at T9 ⊢; (try clear z); (try clear zf); clear S9)
    | (go_at_call 31; refine Classical.byCases (p := s.size < q + 48) (fun hN => by (refine (view_bad w _ g s (q + 32) HS.out (by have := HQ.out; omega) (by omega) T9.out.I T9.out.B).mono ?_; rintro e w' ⟨rfl, hb, hk⟩; exact door_bad w _ g2 g3 _ D 10 _ N23.out T9.out.sz (hk.blk T9.out.K2 T9.out.n2 (by simp)) (hk.blk T9.out.K3 T9.out.n3 (by simp)) L2.out L3.out hb (by rw [HD.out]; exact if_pos hN) rfl rfl)) (fun hN => ?_); have HE : Aside0 (D = d10 s l5 q) := ⟨by rw [HD.out]; exact if_neg hN⟩; have HR : Aside0 (q + 48 ≤ s.size) := ⟨by omega⟩; clear HD HQ hN; have HD := HE; have HQ := HR; clear HE HR; refine (view_ok w _ g s (q + 32) HS.out (by have := HQ.out; omega) T9.out.I T9.out.B).mono ?_; rintro e wb9 ⟨rfl, hi, hb, hk⟩; have S10 := Aside0.mk (T9.out.call hi hb hk); have z := fun j => S10.out.c2 j; have zf := fun j => S10.out.f2 j; clear hi hb hk T9)
    | (refine wpList_load_row rfl 65 (.tmp 4) rfl g4 rfl 65 #[.pointer (some ⟨g, 0, none⟩)] (0, 0) _ ((S10.out.put 10 (.int .u64 (rdv s (q + 32) 8))).put 11 (.int .u64 (rdv s (q + 32 + 8) 8))).K4 Try.underlying65 rfl size65 ?_; have T10 : Aside0 (De w _ g g2 g3 g4 s _ #[.int .i64 (rdv s 0 1), .int .i64 (rdv s 1 1), .int .i64 (rdv s 2 1), .int .u64 (rdv s 3 8), .int .i64 (rdv s 11 1), .slice A5 l5.length c5, .int .u64 (rdv s q 8), .int .u64 (rdv s (q + 8) 8), .int .u64 (rdv s (q + 16) 8), .int .u64 (rdv s (q + 24) 8), .int .u64 (rdv s (q + 32) 8), .int .u64 (rdv s (q + 32 + 8) 8), .int .u64 0, .slice none 0 0, .slice none 0 0, .float .f64 0] _ _ _ _ _ _) := ⟨(S10.out.put 10 (.int .u64 (rdv s (q + 32) 8))).put 11 (.int .u64 (rdv s (q + 32 + 8) 8))⟩; generalize World.setCell _ _ _ = wa10 at T10 ⊢; (try clear z); (try clear zf); clear S10)
    | (go_at_call 28; refine Classical.byCases (p := s.size < q + 56) (fun hN => by (refine (large_bad w _ g s (q + 48) (by have := HQ.out; omega) (by omega) T10.out.I T10.out.B).mono ?_; rintro e w' ⟨rfl, hb, hk⟩; exact door_bad w _ g2 g3 _ D 10 _ N23.out T10.out.sz (hk.blk T10.out.K2 T10.out.n2 (by simp)) (hk.blk T10.out.K3 T10.out.n3 (by simp)) L2.out L3.out hb (by rw [HD.out]; exact if_pos hN) rfl rfl)) (fun hN => ?_); have HE : Aside0 (D = d11 s l5 q) := ⟨by rw [HD.out]; exact if_neg hN⟩; have HR : Aside0 (q + 56 ≤ s.size) := ⟨by omega⟩; clear HD HQ hN; have HD := HE; have HQ := HR; clear HE HR; refine (large_ok w _ g s (q + 48) HS.out (by have := HQ.out; omega) T10.out.I T10.out.B).mono ?_; rintro e wb10 ⟨rfl, hi, hb, hk⟩; have S11 := Aside0.mk (T10.out.call hi hb hk); have z := S11.out.c2 12; have zf := S11.out.f2 12; clear hi hb hk T10)
    | (refine wpList_load_row rfl 65 (.tmp 4) rfl g4 rfl 65 #[.pointer (some ⟨g, 0, none⟩)] (0, 0) _ (S11.out.put 12 (.int .u64 (rdv s (q + 48) 8))).K4 Try.underlying65 rfl size65 ?_; have T11 : Aside0 (De w _ g g2 g3 g4 s _ #[.int .i64 (rdv s 0 1), .int .i64 (rdv s 1 1), .int .i64 (rdv s 2 1), .int .u64 (rdv s 3 8), .int .i64 (rdv s 11 1), .slice A5 l5.length c5, .int .u64 (rdv s q 8), .int .u64 (rdv s (q + 8) 8), .int .u64 (rdv s (q + 16) 8), .int .u64 (rdv s (q + 24) 8), .int .u64 (rdv s (q + 32) 8), .int .u64 (rdv s (q + 32 + 8) 8), .int .u64 (rdv s (q + 48) 8), .slice none 0 0, .slice none 0 0, .float .f64 0] _ _ _ _ _ _) := ⟨S11.out.put 12 (.int .u64 (rdv s (q + 48) 8))⟩; generalize World.setCell _ _ _ = wa11 at T11 ⊢; (try clear z); (try clear zf); clear S11)
    | (refine wpList_load_row rfl 65 (.tmp 4) rfl g4 rfl 65 #[.pointer (some ⟨g, 0, none⟩)] (0, 0) _ T11.out.K4 Try.underlying65 rfl size65 ?_)
    | (go_at_call 32; refine Or.elim (except_or (listI s (itP s) 6 (q + 56))) (fun hN => by (obtain ⟨er, hL⟩ := hN; refine (pc_list_bad w _ g s (q + 56) 6 (by have := HQ.out; omega) HS.out T11.out.I T11.out.B er hL).mono ?_; rintro e w' ⟨rfl, hb, hk⟩; exact door_bad w _ g2 g3 _ D er _ N23.out T11.out.sz (hk.blk T11.out.K2 T11.out.n2 (by simp)) (hk.blk T11.out.K3 T11.out.n3 (by simp)) L2.out L3.out hb (by rw [HD.out]; unfold d11; rw [hL]) rfl rfl)) (fun hN => ?_); obtain ⟨⟨l13, q2⟩, hL⟩ := hN; have HE : Aside0 (D = d12 s l5 q l13 q2) := ⟨by rw [HD.out]; unfold d11; rw [hL]⟩; have HL13 := Aside0.mk hL; clear hL HD; have HD := HE; clear HE; refine (pc_list_ok w _ g s (q + 56) 6 (by have := HQ.out; omega) HS.out T11.out.I T11.out.B l13 q2 HL13.out).mono ?_; rintro e wb11 ⟨v, rfl, ho, hi, hq, hb, hk⟩; obtain ⟨A13, c13, rfl⟩ := Kd.R_slice ho; have HR : Aside0 (q2 ≤ s.size) := ⟨hq⟩; clear HQ; have HQ := HR; clear HR; have S12 := Aside0.mk ((T11.out.call hi hb hk).row13 (Kd.R_mono (Kd.R_lower ho T11.out.B.size) (fun _ _ => trivial))); have z := S12.out.c2 13; have zf := S12.out.f2 13; clear hi hb hk ho hq T11)
    | (refine wpList_load_row rfl 65 (.tmp 4) rfl g4 rfl 65 #[.pointer (some ⟨g, 0, none⟩)] (0, 0) _ (S12.out.put 13 (.slice A13 l13.length c13)).K4 Try.underlying65 rfl size65 ?_; have T12 : Aside0 (De w _ g g2 g3 g4 s _ #[.int .i64 (rdv s 0 1), .int .i64 (rdv s 1 1), .int .i64 (rdv s 2 1), .int .u64 (rdv s 3 8), .int .i64 (rdv s 11 1), .slice A5 l5.length c5, .int .u64 (rdv s q 8), .int .u64 (rdv s (q + 8) 8), .int .u64 (rdv s (q + 16) 8), .int .u64 (rdv s (q + 24) 8), .int .u64 (rdv s (q + 32) 8), .int .u64 (rdv s (q + 32 + 8) 8), .int .u64 (rdv s (q + 48) 8), .slice A13 l13.length c13, .slice none 0 0, .float .f64 0] _ _ _ _ _ _) := ⟨S12.out.put 13 (.slice A13 l13.length c13)⟩; generalize World.setCell _ _ _ = wa12 at T12 ⊢; (try clear z); (try clear zf); clear S12)
    | (refine wpList_load_row rfl 65 (.tmp 4) rfl g4 rfl 65 #[.pointer (some ⟨g, 0, none⟩)] (0, 0) _ T12.out.K4 Try.underlying65 rfl size65 ?_)
    | (go_at_call 34; refine Or.elim (except_or (listI s (itX s) 16 q2)) (fun hN => by (obtain ⟨er, hL⟩ := hN; refine (sp_list_bad w _ g s q2 16 (by have := HQ.out; omega) HS.out T12.out.I T12.out.B er hL).mono ?_; rintro e w' ⟨rfl, hb, hk⟩; exact door_bad w _ g2 g3 _ D er _ N23.out T12.out.sz (hk.blk T12.out.K2 T12.out.n2 (by simp)) (hk.blk T12.out.K3 T12.out.n3 (by simp)) L2.out L3.out hb (by rw [HD.out]; unfold d12; rw [hL]) rfl rfl)) (fun hN => ?_); obtain ⟨⟨l14, q3⟩, hL⟩ := hN; have HE : Aside0 (D = d13 s l5 q l13 l14 q3) := ⟨by rw [HD.out]; unfold d12; rw [hL]⟩; have HL14 := Aside0.mk hL; clear hL HD; have HD := HE; clear HE; refine (sp_list_ok w _ g s q2 16 (by have := HQ.out; omega) HS.out T12.out.I T12.out.B l14 q3 HL14.out).mono ?_; rintro e wb12 ⟨v, rfl, ho, hi, hq, hb, hk⟩; obtain ⟨A14, c14, rfl⟩ := Kd.R_slice ho; have HR : Aside0 (q3 ≤ s.size) := ⟨hq⟩; clear HQ; have HQ := HR; clear HR; have S13 := Aside0.mk ((T12.out.call hi hb hk).row14 (Kd.R_mono (Kd.R_lower ho T12.out.B.size) (fun _ _ => trivial))); have z := S13.out.c2 14; have zf := S13.out.f2 14; clear hi hb hk ho hq T12; have x4 := blk_cell (S13.out.put 14 (.slice A14 l14.length c14)).K4 0))
  have S20 : Aside0 (De w _ g g2 g3 g4 s (q3 : Int) #[.int .i64 (rdv s 0 1), .int .i64 (rdv s 1 1), .int .i64 (rdv s 2 1), .int .u64 (rdv s 3 8), .int .i64 (rdv s 11 1), .slice A5 l5.length c5, .int .u64 (rdv s q 8), .int .u64 (rdv s (q + 8) 8), .int .u64 (rdv s (q + 16) 8), .int .u64 (rdv s (q + 24) 8), .int .u64 (rdv s (q + 32) 8), .int .u64 (rdv s (q + 32 + 8) 8), .int .u64 (rdv s (q + 48) 8), .slice A13 l13.length c13, .slice A14 l14.length c14, .float .f64 0] (.slice A5 l5.length c5) (.slice A13 l13.length c13) (.slice A14 l14.length c14) l5 l13 l14) := ⟨S13.out.put 14 (.slice A14 l14.length c14)⟩
  generalize World.setCell _ _ _ = w20 at S20 x4 ⊢
  clear S13 z zf
  by_cases hN : s.size < q3 + 8
  · have HN := Aside0.mk hN
    clear hN
    go_wp2_with (first
      | (go_at_call 37; refine (real37_bad w _ g s q3 HQ.out HN.out S20.out.I S20.out.B).mono ?_; rintro e w' ⟨x_, rfl, hb, hk⟩; have HB_ := Aside0.mk hb; have HK_ := Aside0.mk hk; clear hb hk)
      | (go_at_call 36; refine (must_flt_bad _ 10 (by decide) _).mono ?_; rintro e w'' ⟨rfl, rfl⟩))
    have hb := HB_.out
    have hk := HK_.out
    exact door_bad w _ g2 g3 _ D 10 _ N23.out S20.out.sz (hk.blk S20.out.K2 S20.out.n2 (by simp)) (hk.blk S20.out.K3 S20.out.n3 (by simp)) L2.out L3.out hb (by rw [HD.out]; exact if_pos HN.out) rfl rfl
  have HD1 : Aside0 (D = d14 s l5 q l13 l14 q3) := ⟨by rw [HD.out]; exact if_neg hN⟩
  clear HD
  have HD := HD1
  have HR : Aside0 (q3 + 8 ≤ s.size) := ⟨by omega⟩
  clear HD1 HQ hN
  by_cases hN : q3 + 8 < s.size
  · have HN := Aside0.mk hN
    clear hN
    go_wp2_with (first
      | (go_at_call 37; refine (real37_ok w _ g s q3 HS.out HR.out S20.out.I S20.out.B).mono ?_; rintro e w21 ⟨rfl, hi, hb, hk⟩; have S21 := Aside0.mk (S20.out.call hi hb hk); have z := S21.out.c2 15; have zf := S21.out.f2 15; have y4 := blk_cell (S21.out.put 15 (.float .f64 (loadF s q3))).K4 0; clear hi hb hk S20 x4)
      | (go_at_call 36; refine (must_flt_ok _ _).mono ?_; rintro e w'' ⟨rfl, rfl⟩)
      | (go_at_call 38; refine (end_more w _ g s (q3 + 8) HS.out HN.out (S21.out.put 15 (.float .f64 (loadF s q3))).I (S21.out.put 15 (.float .f64 (loadF s q3))).B).mono ?_; rintro e w22 ⟨rfl, hi, hb, hk⟩; have S22 := Aside0.mk ((S21.out.put 15 (.float .f64 (loadF s q3))).call hi hb hk); have x5 := blk_cell S22.out.K4 0; clear hi hb hk S21 z zf y4)
      | (go_at_call 38; refine (end_more w _ g s (q3 + 8) HS.out HN.out S22.out.I S22.out.B).mono ?_; rintro e w23 ⟨rfl, hi, hb, hk⟩; have S23 := Aside0.mk (S22.out.call hi hb hk); clear hi hb hk S22 x5))
    have hb := S23.out.B
    exact door_bad w _ g2 g3 _ D 11 _ N23.out S23.out.sz S23.out.K2 S23.out.K3 L2.out L3.out hb (by rw [HD.out]; exact if_pos HN.out) rfl rfl
  have HD1 : Aside0 (D = d15 s l5 q l13 l14 q3) := ⟨by rw [HD.out]; exact if_neg hN⟩
  clear HD
  have HD := HD1
  have HE : Aside0 (q3 + 8 = s.size) := ⟨by have := HR.out; omega⟩
  clear HD1 hN
  have hi32 : (Try.prog.info? 32).map (·.size) = some 16 := by kernel_rfl
  by_cases h1 : rdv s 0 1 < 1
  · have H1 := Aside0.mk h1
    go_wp2_with (first
      | (go_at_call 37; refine (real37_ok w _ g s q3 HS.out HR.out S20.out.I S20.out.B).mono ?_; rintro e w21 ⟨rfl, hi, hb, hk⟩; have S21 := Aside0.mk (S20.out.call hi hb hk); have z := S21.out.c2 15; have zf := S21.out.f2 15; have y4 := blk_cell (S21.out.put 15 (.float .f64 (loadF s q3))).K4 0; clear hi hb hk S20 x4)
      | (go_at_call 36; refine (must_flt_ok _ _).mono ?_; rintro e w'' ⟨rfl, rfl⟩)
      | (go_at_call 38; refine (end_done w _ g s (q3 + 8) HS.out HE.out (S21.out.put 15 (.float .f64 (loadF s q3))).I (S21.out.put 15 (.float .f64 (loadF s q3))).B).mono ?_; rintro e w22 ⟨rfl, hi, hb, hk⟩; have S22 : Aside0 (De w w22 g g2 g3 g4 s ((q3 + 8 : Nat) : Int) #[.int .i64 (rdv s 0 1), .int .i64 (rdv s 1 1), .int .i64 (rdv s 2 1), .int .u64 (rdv s 3 8), .int .i64 (rdv s 11 1), .slice A5 l5.length c5, .int .u64 (rdv s q 8), .int .u64 (rdv s (q + 8) 8), .int .u64 (rdv s (q + 16) 8), .int .u64 (rdv s (q + 24) 8), .int .u64 (rdv s (q + 32) 8), .int .u64 (rdv s (q + 32 + 8) 8), .int .u64 (rdv s (q + 48) 8), .slice A13 l13.length c13, .slice A14 l14.length c14, .float .f64 (loadF s q3)] (.slice A5 l5.length c5) (.slice A13 l13.length c13) (.slice A14 l14.length c14) l5 l13 l14) := ⟨(S21.out.put 15 (.float .f64 (loadF s q3))).call hi hb hk⟩; have z := S22.out.c2 0; clear hi hb hk S21 zf y4))
    have hb := S22.out.B
    exact door_bad w _ g2 g3 _ D 150 _ N23.out S22.out.sz S22.out.K2 S22.out.K3 L2.out L3.out hb (by rw [HD.out]; exact if_pos (.inl H1.out)) rfl rfl
  by_cases h2 : 14 < rdv s 0 1
  · have H2 := Aside0.mk h2
    go_wp2_with (first
      | (go_at_call 37; refine (real37_ok w _ g s q3 HS.out HR.out S20.out.I S20.out.B).mono ?_; rintro e w21 ⟨rfl, hi, hb, hk⟩; have S21 := Aside0.mk (S20.out.call hi hb hk); have z := S21.out.c2 15; have zf := S21.out.f2 15; have y4 := blk_cell (S21.out.put 15 (.float .f64 (loadF s q3))).K4 0; clear hi hb hk S20 x4)
      | (go_at_call 36; refine (must_flt_ok _ _).mono ?_; rintro e w'' ⟨rfl, rfl⟩)
      | (go_at_call 38; refine (end_done w _ g s (q3 + 8) HS.out HE.out (S21.out.put 15 (.float .f64 (loadF s q3))).I (S21.out.put 15 (.float .f64 (loadF s q3))).B).mono ?_; rintro e w22 ⟨rfl, hi, hb, hk⟩; have S22 : Aside0 (De w w22 g g2 g3 g4 s ((q3 + 8 : Nat) : Int) #[.int .i64 (rdv s 0 1), .int .i64 (rdv s 1 1), .int .i64 (rdv s 2 1), .int .u64 (rdv s 3 8), .int .i64 (rdv s 11 1), .slice A5 l5.length c5, .int .u64 (rdv s q 8), .int .u64 (rdv s (q + 8) 8), .int .u64 (rdv s (q + 16) 8), .int .u64 (rdv s (q + 24) 8), .int .u64 (rdv s (q + 32) 8), .int .u64 (rdv s (q + 32 + 8) 8), .int .u64 (rdv s (q + 48) 8), .slice A13 l13.length c13, .slice A14 l14.length c14, .float .f64 (loadF s q3)] (.slice A5 l5.length c5) (.slice A13 l13.length c13) (.slice A14 l14.length c14) l5 l13 l14) := ⟨(S21.out.put 15 (.float .f64 (loadF s q3))).call hi hb hk⟩; have z := S22.out.c2 0; clear hi hb hk S21 zf y4))
    have hb := S22.out.B
    exact door_bad w _ g2 g3 _ D 150 _ N23.out S22.out.sz S22.out.K2 S22.out.K3 L2.out L3.out hb (by rw [HD.out]; exact if_pos (.inr H2.out)) rfl rfl
  have HD1 : Aside0 (D = d16 s l5 q l13 l14 q3) := ⟨by rw [HD.out]; exact if_neg (by rintro (h | h); exact h1 h; exact h2 h)⟩
  clear HD
  have HD := HD1
  clear HD1
  cases hM : mayL (rdv s 0 1) (rdv s 1 1) (rdv s 2 1) (rdv s 11 1) l5 l13 l14 (loadF s q3)
  · have HM := Aside0.mk hM
    clear hM
    go_wp2_with (first
      | (go_at_call 37; refine (real37_ok w _ g s q3 HS.out HR.out S20.out.I S20.out.B).mono ?_; rintro e w21 ⟨rfl, hi, hb, hk⟩; have S21 := Aside0.mk (S20.out.call hi hb hk); have z := S21.out.c2 15; have zf := S21.out.f2 15; have y4 := blk_cell (S21.out.put 15 (.float .f64 (loadF s q3))).K4 0; clear hi hb hk S20 x4)
      | (go_at_call 36; refine (must_flt_ok _ _).mono ?_; rintro e w'' ⟨rfl, rfl⟩)
      | (go_at_call 38; refine (end_done w _ g s (q3 + 8) HS.out HE.out (S21.out.put 15 (.float .f64 (loadF s q3))).I (S21.out.put 15 (.float .f64 (loadF s q3))).B).mono ?_; rintro e w22 ⟨rfl, hi, hb, hk⟩; have S22 : Aside0 (De w w22 g g2 g3 g4 s ((q3 + 8 : Nat) : Int) #[.int .i64 (rdv s 0 1), .int .i64 (rdv s 1 1), .int .i64 (rdv s 2 1), .int .u64 (rdv s 3 8), .int .i64 (rdv s 11 1), .slice A5 l5.length c5, .int .u64 (rdv s q 8), .int .u64 (rdv s (q + 8) 8), .int .u64 (rdv s (q + 16) 8), .int .u64 (rdv s (q + 24) 8), .int .u64 (rdv s (q + 32) 8), .int .u64 (rdv s (q + 32 + 8) 8), .int .u64 (rdv s (q + 48) 8), .slice A13 l13.length c13, .slice A14 l14.length c14, .float .f64 (loadF s q3)] (.slice A5 l5.length c5) (.slice A13 l13.length c13) (.slice A14 l14.length c14) l5 l13 l14) := ⟨(S21.out.put 15 (.float .f64 (loadF s q3))).call hi hb hk⟩; have z := S22.out.c2 0; clear hi hb hk S21 zf y4)
      | (refine wpList_load_row rfl 32 (.tmp 2) rfl g2 rfl 32 #[.int .i64 (rdv s 0 1), .int .i64 (rdv s 1 1), .int .i64 (rdv s 2 1), .int .u64 (rdv s 3 8), .int .i64 (rdv s 11 1), .slice A5 l5.length c5, .int .u64 (rdv s q 8), .int .u64 (rdv s (q + 8) 8), .int .u64 (rdv s (q + 16) 8), .int .u64 (rdv s (q + 24) 8), .int .u64 (rdv s (q + 32) 8), .int .u64 (rdv s (q + 32 + 8) 8), .int .u64 (rdv s (q + 48) 8), .slice A13 l13.length c13, .slice A14 l14.length c14, .float .f64 (loadF s q3)] (0, 0) _ S22.out.K2 Try.underlying32 rfl hi32 ?_)
      | (go_at_call 18; refine (may_at (rdv s 0 1) (rdv s 1 1) (rdv s 2 1) (rdv s 3 8) (rdv s 11 1) A5 c5 l5 (rdv s q 8) (rdv s (q + 8) 8) (rdv s (q + 16) 8) (rdv s (q + 24) 8) (rdv s (q + 32) 8) (rdv s (q + 32 + 8) 8) (rdv s (q + 48) 8) A13 c13 l13 A14 c14 l14 (loadF s q3) _ (Kd.R_reads' S22.out.R5).2.2 (Kd.R_reads' S22.out.R5).2.1 (Kd.R_reads' S22.out.R13).2.2 (Kd.R_reads' S22.out.R13).2.1 (Kd.R_reads' S22.out.R14).2.2 (Kd.R_reads' S22.out.R14).2.1).mono ?_; rintro e w23 ⟨rfl, hb⟩; rw [HM.out]; have S23 := Aside0.mk (S22.out.below hb); clear hb z S22))
    have hb := S23.out.B
    exact door_bad w _ g2 g3 _ D 1 _ N23.out S23.out.sz S23.out.K2 S23.out.K3 L2.out L3.out hb (by rw [HD.out]; exact if_pos HM.out) rfl rfl
  · have HM := Aside0.mk hM
    clear hM
    go_wp2_with (first
      | (go_at_call 37; refine (real37_ok w _ g s q3 HS.out HR.out S20.out.I S20.out.B).mono ?_; rintro e w21 ⟨rfl, hi, hb, hk⟩; have S21 := Aside0.mk (S20.out.call hi hb hk); have z := S21.out.c2 15; have zf := S21.out.f2 15; have y4 := blk_cell (S21.out.put 15 (.float .f64 (loadF s q3))).K4 0; clear hi hb hk S20 x4)
      | (go_at_call 36; refine (must_flt_ok _ _).mono ?_; rintro e w'' ⟨rfl, rfl⟩)
      | (go_at_call 38; refine (end_done w _ g s (q3 + 8) HS.out HE.out (S21.out.put 15 (.float .f64 (loadF s q3))).I (S21.out.put 15 (.float .f64 (loadF s q3))).B).mono ?_; rintro e w22 ⟨rfl, hi, hb, hk⟩; have S22 : Aside0 (De w w22 g g2 g3 g4 s ((q3 + 8 : Nat) : Int) #[.int .i64 (rdv s 0 1), .int .i64 (rdv s 1 1), .int .i64 (rdv s 2 1), .int .u64 (rdv s 3 8), .int .i64 (rdv s 11 1), .slice A5 l5.length c5, .int .u64 (rdv s q 8), .int .u64 (rdv s (q + 8) 8), .int .u64 (rdv s (q + 16) 8), .int .u64 (rdv s (q + 24) 8), .int .u64 (rdv s (q + 32) 8), .int .u64 (rdv s (q + 32 + 8) 8), .int .u64 (rdv s (q + 48) 8), .slice A13 l13.length c13, .slice A14 l14.length c14, .float .f64 (loadF s q3)] (.slice A5 l5.length c5) (.slice A13 l13.length c13) (.slice A14 l14.length c14) l5 l13 l14) := ⟨(S21.out.put 15 (.float .f64 (loadF s q3))).call hi hb hk⟩; have z := S22.out.c2 0; clear hi hb hk S21 zf y4)
      | (refine wpList_load_row rfl 32 (.tmp 2) rfl g2 rfl 32 #[.int .i64 (rdv s 0 1), .int .i64 (rdv s 1 1), .int .i64 (rdv s 2 1), .int .u64 (rdv s 3 8), .int .i64 (rdv s 11 1), .slice A5 l5.length c5, .int .u64 (rdv s q 8), .int .u64 (rdv s (q + 8) 8), .int .u64 (rdv s (q + 16) 8), .int .u64 (rdv s (q + 24) 8), .int .u64 (rdv s (q + 32) 8), .int .u64 (rdv s (q + 32 + 8) 8), .int .u64 (rdv s (q + 48) 8), .slice A13 l13.length c13, .slice A14 l14.length c14, .float .f64 (loadF s q3)] (0, 0) _ S22.out.K2 Try.underlying32 rfl hi32 ?_)
      | (go_at_call 18; refine (may_at (rdv s 0 1) (rdv s 1 1) (rdv s 2 1) (rdv s 3 8) (rdv s 11 1) A5 c5 l5 (rdv s q 8) (rdv s (q + 8) 8) (rdv s (q + 16) 8) (rdv s (q + 24) 8) (rdv s (q + 32) 8) (rdv s (q + 32 + 8) 8) (rdv s (q + 48) 8) A13 c13 l13 A14 c14 l14 (loadF s q3) _ (Kd.R_reads' S22.out.R5).2.2 (Kd.R_reads' S22.out.R5).2.1 (Kd.R_reads' S22.out.R13).2.2 (Kd.R_reads' S22.out.R13).2.1 (Kd.R_reads' S22.out.R14).2.2 (Kd.R_reads' S22.out.R14).2.1).mono ?_; rintro e w23 ⟨rfl, hb⟩; rw [HM.out]; have S23 := Aside0.mk (S22.out.below hb); clear hb z S22)
      | (refine wpList_load_row rfl 32 (.tmp 2) rfl g2 rfl 32 #[.int .i64 (rdv s 0 1), .int .i64 (rdv s 1 1), .int .i64 (rdv s 2 1), .int .u64 (rdv s 3 8), .int .i64 (rdv s 11 1), .slice A5 l5.length c5, .int .u64 (rdv s q 8), .int .u64 (rdv s (q + 8) 8), .int .u64 (rdv s (q + 16) 8), .int .u64 (rdv s (q + 24) 8), .int .u64 (rdv s (q + 32) 8), .int .u64 (rdv s (q + 32 + 8) 8), .int .u64 (rdv s (q + 48) 8), .slice A13 l13.length c13, .slice A14 l14.length c14, .float .f64 (loadF s q3)] (0, 0) _ S23.out.K2 Try.underlying32 rfl hi32 ?_)
      | ((with_reducible refine gate_store (t := 32) (p := 2) rfl ?_); go_loud (refine wpList_store_row rfl 32 (.tmp 2) (.tmp 89) rfl g2 #[.int .i64 (rdv s 0 1), .int .i64 (rdv s 1 1), .int .i64 (rdv s 2 1), .int .u64 (rdv s 3 8), .int .i64 (rdv s 11 1), .slice A5 l5.length c5, .int .u64 (rdv s q 8), .int .u64 (rdv s (q + 8) 8), .int .u64 (rdv s (q + 16) 8), .int .u64 (rdv s (q + 24) 8), .int .u64 (rdv s (q + 32) 8), .int .u64 (rdv s (q + 32 + 8) 8), .int .u64 (rdv s (q + 48) 8), .slice A13 l13.length c13, .slice A14 l14.length c14, .float .f64 (loadF s q3)] rfl rfl 32 #[.int .i64 (rdv s 0 1), .int .i64 (rdv s 1 1), .int .i64 (rdv s 2 1), .int .u64 (rdv s 3 8), .int .i64 (rdv s 11 1), .slice A5 l5.length c5, .int .u64 (rdv s q 8), .int .u64 (rdv s (q + 8) 8), .int .u64 (rdv s (q + 16) 8), .int .u64 (rdv s (q + 24) 8), .int .u64 (rdv s (q + 32) 8), .int .u64 (rdv s (q + 32 + 8) 8), .int .u64 (rdv s (q + 48) 8), .slice A13 l13.length c13, .slice A14 l14.length c14, .float .f64 (loadF s q3)] S23.out.K2 hi32 rfl (one_L _ _ _ _ _ _ _ _ _ _ _ _ _ _ _ _ _ _ _ _ _ _) ?_); have RK2 := Aside0.mk (setRow_heap w23 g2 #[.int .i64 (rdv s 0 1), .int .i64 (rdv s 1 1), .int .i64 (rdv s 2 1), .int .u64 (rdv s 3 8), .int .i64 (rdv s 11 1), .slice A5 l5.length c5, .int .u64 (rdv s q 8), .int .u64 (rdv s (q + 8) 8), .int .u64 (rdv s (q + 16) 8), .int .u64 (rdv s (q + 24) 8), .int .u64 (rdv s (q + 32) 8), .int .u64 (rdv s (q + 32 + 8) 8), .int .u64 (rdv s (q + 48) 8), .slice A13 l13.length c13, .slice A14 l14.length c14, .float .f64 (loadF s q3)] #[.int .i64 (rdv s 0 1), .int .i64 (rdv s 1 1), .int .i64 (rdv s 2 1), .int .u64 (rdv s 3 8), .int .i64 (rdv s 11 1), .slice A5 l5.length c5, .int .u64 (rdv s q 8), .int .u64 (rdv s (q + 8) 8), .int .u64 (rdv s (q + 16) 8), .int .u64 (rdv s (q + 24) 8), .int .u64 (rdv s (q + 32) 8), .int .u64 (rdv s (q + 32 + 8) 8), .int .u64 (rdv s (q + 48) 8), .slice A13 l13.length c13, .slice A14 l14.length c14, .float .f64 (loadF s q3)] 32 (0, 0) S23.out.K2); have RK3 := Aside0.mk ((setRow_other w23 g2 g3 #[.int .i64 (rdv s 0 1), .int .i64 (rdv s 1 1), .int .i64 (rdv s 2 1), .int .u64 (rdv s 3 8), .int .i64 (rdv s 11 1), .slice A5 l5.length c5, .int .u64 (rdv s q 8), .int .u64 (rdv s (q + 8) 8), .int .u64 (rdv s (q + 16) 8), .int .u64 (rdv s (q + 24) 8), .int .u64 (rdv s (q + 32) 8), .int .u64 (rdv s (q + 32 + 8) 8), .int .u64 (rdv s (q + 48) 8), .slice A13 l13.length c13, .slice A14 l14.length c14, .float .f64 (loadF s q3)] (Ne.symm N23.out)).trans S23.out.K3); have RB := Aside0.mk (below_setRow S23.out.B L2.out #[.int .i64 (rdv s 0 1), .int .i64 (rdv s 1 1), .int .i64 (rdv s 2 1), .int .u64 (rdv s 3 8), .int .i64 (rdv s 11 1), .slice A5 l5.length c5, .int .u64 (rdv s q 8), .int .u64 (rdv s (q + 8) 8), .int .u64 (rdv s (q + 16) 8), .int .u64 (rdv s (q + 24) 8), .int .u64 (rdv s (q + 32) 8), .int .u64 (rdv s (q + 32 + 8) 8), .int .u64 (rdv s (q + 48) 8), .slice A13 l13.length c13, .slice A14 l14.length c14, .float .f64 (loadF s q3)]); have RR5 := Aside0.mk (row_step S23.out.R5 S23.out.K2 (by decide) #[.int .i64 (rdv s 0 1), .int .i64 (rdv s 1 1), .int .i64 (rdv s 2 1), .int .u64 (rdv s 3 8), .int .i64 (rdv s 11 1), .slice A5 l5.length c5, .int .u64 (rdv s q 8), .int .u64 (rdv s (q + 8) 8), .int .u64 (rdv s (q + 16) 8), .int .u64 (rdv s (q + 24) 8), .int .u64 (rdv s (q + 32) 8), .int .u64 (rdv s (q + 32 + 8) 8), .int .u64 (rdv s (q + 48) 8), .slice A13 l13.length c13, .slice A14 l14.length c14, .float .f64 (loadF s q3)]); have RR13 := Aside0.mk (row_step S23.out.R13 S23.out.K2 (by decide) #[.int .i64 (rdv s 0 1), .int .i64 (rdv s 1 1), .int .i64 (rdv s 2 1), .int .u64 (rdv s 3 8), .int .i64 (rdv s 11 1), .slice A5 l5.length c5, .int .u64 (rdv s q 8), .int .u64 (rdv s (q + 8) 8), .int .u64 (rdv s (q + 16) 8), .int .u64 (rdv s (q + 24) 8), .int .u64 (rdv s (q + 32) 8), .int .u64 (rdv s (q + 32 + 8) 8), .int .u64 (rdv s (q + 48) 8), .slice A13 l13.length c13, .slice A14 l14.length c14, .float .f64 (loadF s q3)]); have RR14 := Aside0.mk (row_step S23.out.R14 S23.out.K2 (by decide) #[.int .i64 (rdv s 0 1), .int .i64 (rdv s 1 1), .int .i64 (rdv s 2 1), .int .u64 (rdv s 3 8), .int .i64 (rdv s 11 1), .slice A5 l5.length c5, .int .u64 (rdv s q 8), .int .u64 (rdv s (q + 8) 8), .int .u64 (rdv s (q + 16) 8), .int .u64 (rdv s (q + 24) 8), .int .u64 (rdv s (q + 32) 8), .int .u64 (rdv s (q + 32 + 8) 8), .int .u64 (rdv s (q + 48) 8), .slice A13 l13.length c13, .slice A14 l14.length c14, .float .f64 (loadF s q3)]); generalize World.setRow w23 g2 _ = w24 at RK2 RK3 RB RR5 RR13 RR14 ⊢; have z3 := blk_cell RK3.out 0; have zf3 := blk_frozen RK3.out 0; clear S23))
    have Q2 := blk_far (p := ⟨g3, 0, none⟩) RK2.out N23.out (.int .i64 0)
    have Q3 := blk_put RK3.out 0 (.int .i64 0) rfl
    exact door_ok w _ g2 g3 (letterOf s l5 q l13 l14 q3) (.slice A5 l5.length c5) (.slice A13 l13.length c13) (.slice A14 l14.length c14) D _ Q2 Q3 (below_set RB.out L3.out) (by rw [HD.out]; exact if_neg (by rw [HM.out]; decide))
      (Kd.R_mono (Kd.R_far (p := ⟨g3, 0, none⟩) (Kd.R_types RR5.out RK3.out (by decide)) (fun _ h => h.2) _) (fun _ _ => trivial)) (Kd.R_mono (Kd.R_far (p := ⟨g3, 0, none⟩) (Kd.R_types RR13.out RK3.out (by decide)) (fun _ h => h.2) _) (fun _ _ => trivial)) (Kd.R_mono (Kd.R_far (p := ⟨g3, 0, none⟩) (Kd.R_types RR14.out RK3.out (by decide)) (fun _ h => h.2) _) (fun _ _ => trivial)) rfl rfl
end Go.Proofs.Ytondgoabnmgcaaa.B
end
section
/- By hand: Decode's answer in the print's form, and 'shown': a letter is bytes, and back. -/
namespace Go.Proofs.Ytondgoabnmgcaaa.B
open Go.RowKit Go.Proofs.YtondgoabnmgcaaaW.PrintWords Go.Proofs.YtondgoabnmgcaaaW.PrintLast Go.Proofs.YtondgoabnmgcaaaW.PrintMore
open Go.Proofs.YtondgoabnmgcaaaO.R (rdv rbits le)
set_option linter.unusedSimpArgs false
set_option linter.unusedVariables false
theorem C_nil {α : Type} (d : Kd α) (w : World) : Kd.C d w none ([] : List α).length [] := ⟨rfl, by simp, fun h0 => absurd h0 (by simp)⟩
def shownX : S32 := ⟨3, 1, 2, 9, 0, [], ⟨0, 0⟩, 0, 0, ⟨0, 0⟩, 0, [], [], 0⟩
theorem shown_may : mayL 3 1 2 0 [] [] [] 0 = true := by kernel_rfl
theorem shown_okL : okL 3 1 2 9 0 [] 0 0 0 0 0 0 0 [] [] 0 = true := by kernel_rfl
theorem shown_dec : decP (strOfNums (encL 3 1 2 9 0 [] 0 0 0 0 0 0 0 [] [] 0)) = .ok shownX := by kernel_rfl
theorem shown_size : (strOfNums (encL 3 1 2 9 0 [] 0 0 0 0 0 0 0 [] [] 0)).size = 79 := by kernel_rfl
theorem shown_open : Go.Proofs.YtondgoabnmgcaaaG.B.guard_Open.f (sealS (strOfNums (encL 3 1 2 9 0 [] 0 0 0 0 0 0 0 [] [] 0))) = some (strOfNums (encL 3 1 2 9 0 [] 0 0 0 0 0 0 0 [] [] 0), 0) :=
  Go.Proofs.YtondgoabnmgcaaaG.Pure.open_seal _ (by rw [shown_size]; decide)
def conventiclelaw15_shown.f : Option Bool := some true
set_option maxRecDepth 100000 in
set_option maxHeartbeats 2000000 in
theorem conventiclelaw15_shown.calls (r : Bool) (w : World) (h : conventiclelaw15_shown.f = some r) :
    Calls Try.prog 8 #[] w fun e w' => e = .returned (.bool r) ∧ Below w.heap.size w w' := by
  obtain rfl := Option.some.inj h
  clear h
  have HE := fun w : World => Aside0.mk (encode_ok 3 1 2 9 0 none 0 [] 0 0 0 0 0 0 0 none 0 [] none 0 [] 0 w (C_nil _ _) (Nat.le_refl _) (C_nil _ _) (Nat.le_refl _) (C_nil _ _) (Nat.le_refl _) shown_may shown_okL)
  have HD := Aside0.mk shown_dec
  have HO := Aside0.mk shown_open
  have HSZ := Aside0.mk shown_size
  generalize strOfNums (encL 3 1 2 9 0 [] 0 0 0 0 0 0 0 [] [] 0) = s at HE HD HO HSZ
  obtain ⟨t, ht⟩ : ∃ t, sealS s = t := ⟨_, rfl⟩
  rw [ht] at HE HO
  clear ht
  go_enter Try.func8, Try.ntmps8
  go_wp2_with (first
    | (go_at_call 14; refine ((HE _).out).mono ?_; rintro e w1 ⟨rfl, hb⟩; have B1 := Aside0.mk hb; clear hb)
    | (go_at_call 10; refine (decode_walk _ t s HO.out (by rw [HSZ.out]; decide)).mono ?_; rintro e w2 hh; rw [HD.out] at hh; obtain ⟨hb, v5, v13, v14, rfl, r5, r13, r14⟩ := hh; obtain ⟨A5, c5, rfl⟩ := Kd.R_slice r5; obtain ⟨A13, c13, rfl⟩ := Kd.R_slice r13; obtain ⟨A14, c14, rfl⟩ := Kd.R_slice r14; have hc : cellsL shownX (.slice A5 shownX.f5.length c5) (.slice A13 shownX.f11.length c13) (.slice A14 shownX.f12.length c14) = #[.int .i64 3, .int .i64 1, .int .i64 2, .int .u64 9, .int .i64 0, .slice A5 0 c5, .int .u64 0, .int .u64 0, .int .u64 0, .int .u64 0, .int .u64 0, .int .u64 0, .int .u64 0, .slice A13 0 c13, .slice A14 0 c14, .float .f64 0] := rfl; rw [hc]; clear hc; have B2 := Aside0.mk (below_step B1.out hb); clear hb r5 r13 r14)
    | ((with_reducible refine gate_dst (N := 3) rfl ?_); refine box_event ?hg (N := 3) ?hd (cs := #[.int .i64 0, .int .i64 0, .int .i64 0, .int .u64 0, .int .i64 0, .slice none 0 0, .int .u64 0, .int .u64 0, .int .u64 0, .int .u64 0, .int .u64 0, .int .u64 0, .int .u64 0, .slice none 0 0, .slice none 0 0, .float .f64 0]) (t := 32) ?hr ?_; (case hd => rfl); (case hg => rfl); (case hr => first | (go_simp; done) | (go_simp; rfl)); intro g3 hg_ w3 hb_ hB_; have K3 := Aside0.mk hb_; have G3 := Aside0.mk (show w.heap.size ≤ g3 by rw [hg_]; exact B2.out.size); have B3 := Aside0.mk (below_step B2.out hB_); clear hg_ hb_ hB_)
    | ((with_reducible refine gate_store (t := 32) (p := 3) rfl ?_); go_loud (refine wpList_store_row rfl 32 (.tmp 3) (.tmp 13) rfl g3 #[.int .i64 3, .int .i64 1, .int .i64 2, .int .u64 9, .int .i64 0, .slice A5 0 c5, .int .u64 0, .int .u64 0, .int .u64 0, .int .u64 0, .int .u64 0, .int .u64 0, .int .u64 0, .slice A13 0 c13, .slice A14 0 c14, .float .f64 0] rfl rfl 32 #[.int .i64 0, .int .i64 0, .int .i64 0, .int .u64 0, .int .i64 0, .slice none 0 0, .int .u64 0, .int .u64 0, .int .u64 0, .int .u64 0, .int .u64 0, .int .u64 0, .int .u64 0, .slice none 0 0, .slice none 0 0, .float .f64 0] K3.out si32 rfl (one_L _ _ _ _ _ _ _ _ _ _ _ _ _ _ _ _ _ _ _ _ _ _) ?_); have RK := Aside0.mk (setRow_heap w3 g3 #[.int .i64 0, .int .i64 0, .int .i64 0, .int .u64 0, .int .i64 0, .slice none 0 0, .int .u64 0, .int .u64 0, .int .u64 0, .int .u64 0, .int .u64 0, .int .u64 0, .int .u64 0, .slice none 0 0, .slice none 0 0, .float .f64 0] #[.int .i64 3, .int .i64 1, .int .i64 2, .int .u64 9, .int .i64 0, .slice A5 0 c5, .int .u64 0, .int .u64 0, .int .u64 0, .int .u64 0, .int .u64 0, .int .u64 0, .int .u64 0, .slice A13 0 c13, .slice A14 0 c14, .float .f64 0] 32 (0, 0) K3.out); have RB := Aside0.mk (below_setRow B3.out G3.out #[.int .i64 3, .int .i64 1, .int .i64 2, .int .u64 9, .int .i64 0, .slice A5 0 c5, .int .u64 0, .int .u64 0, .int .u64 0, .int .u64 0, .int .u64 0, .int .u64 0, .int .u64 0, .slice A13 0 c13, .slice A14 0 c14, .float .f64 0]); generalize World.setRow w3 g3 _ = w4 at RK RB ⊢; have z := fun j => blk_cell RK.out j))
  go_ret
  exact ⟨rfl, RB.out⟩
end Go.Proofs.Ytondgoabnmgcaaa.B
end
section
/- By hand: the walk of LetterMay. -/
namespace Go.Proofs.Ytondgoabnmgcaaa.B
open Go.RowKit Go.Proofs.YtondgoabnmgcaaaW.PrintWords Go.Proofs.YtondgoabnmgcaaaW.PrintLast Go.Proofs.YtondgoabnmgcaaaW.PrintMore
open Go.Proofs.YtondgoabnmgcaaaO.R (le le_length rbits ord)
set_option linter.unusedSimpArgs false
set_option linter.unusedVariables false
theorem ge_self (x : Nat) (h : geF x = true) : (FloatKind.f64.format.order x x == some Ordering.eq) = true := by
  unfold geF at h
  rw [ord] at h
  by_cases hn : Go.Proofs.YtondgoabnmgcaaaO.Flt.nan x = true ∨ Go.Proofs.YtondgoabnmgcaaaO.Flt.nan 0 = true
  · rw [if_pos hn] at h; cases h
  · rw [ord, if_neg (by rintro (h | h) <;> exact hn (.inl h))]
    simp
end Go.Proofs.Ytondgoabnmgcaaa.B
end
section
/- Plain: what the reference's May answers is what mayL says. -/
namespace Go.Proofs.Ytondgoabnmgcaaa.B
open Go.RowKit Go.Proofs.YtondgoabnmgcaaaW.PrintWords Go.Proofs.YtondgoabnmgcaaaW.PrintLast Go.Proofs.YtondgoabnmgcaaaW.PrintMore
open Go.Proofs.YtondgoabnmgcaaaO.R (ord)
set_option linter.unusedVariables false
def from90 (q : S90) : S53 := ⟨q.f0, q.f1⟩
def wfX (l : List S77) : Prop := ∀ x ∈ l, 0 ≤ x.f0 ∧ x.f0 < 18446744073709551616 ∧ 0 ≤ x.f1 ∧ x.f1 < 18446744073709551616
theorem ref12_l0 (l : List S77) (hl : l.length ≤ 4611686018427387904) (hwf : wfX l) : ∀ (n j k : Nat) (least : Int), j + n = l.length → n < k →
    (least = if h : 0 < j ∧ j - 1 < l.length then IntKind.u64.wrap (l[j - 1].f1 + 2) else 0) → (∀ h : 0 < j ∧ j - 1 < l.length, l[j - 1].f1 ≠ 18446744073709551615) →
    conventicleref12_May.l0 k l (j : Int) = some (sepL least (j == 0) (l.drop j)) := by
  intro n
  induction n with
  | zero =>
    intro j k least hj hk _ _
    obtain ⟨k, rfl⟩ : ∃ m, k = m + 1 := ⟨k - 1, by omega⟩
    rw [conventicleref12_May.l0, if_neg (by omega), List.drop_eq_nil_of_le (by omega)]
    rfl
  | succ n ih =>
    intro j k least hj hk hle hmx
    obtain ⟨k, rfl⟩ : ∃ m, k = m + 1 := ⟨k - 1, by omega⟩
    have hlt : j < l.length := by omega
    rw [conventicleref12_May.l0, if_pos (by omega), if_pos (by omega), rd77 l j hlt, List.drop_eq_getElem_cons hlt, sepL]
    have hx := hwf l[j] (List.getElem_mem hlt)
    have hw : wrap64 ((j : Int) + 1) = ((j + 1 : Nat) : Int) := by unfold wrap64; omega
    have hr : l[j].f1 ≠ 18446744073709551615 → conventicleref12_May.l0 k l ((j + 1 : Nat) : Int) = some (sepL (IntKind.u64.wrap (l[j].f1 + 2)) (j + 1 == 0) (l.drop (j + 1))) := fun hn => ih (j + 1) k (IntKind.u64.wrap (l[j].f1 + 2)) (by omega) (by omega) (by rw [dif_pos ⟨by omega, by simpa using hlt⟩]; rfl) (fun _ => hn)
    rw [hw]
    have e1 : (j + 1 == 0) = false := by simp
    rw [e1] at hr
    generalize hX : l[j] = x at hx hr ⊢
    by_cases h2 : x.f0 > x.f1
    · rw [if_pos h2, if_pos h2]
      by_cases h1 : x.f0 < least
      · rw [if_pos h1]
      · rw [if_neg h1]
    rw [if_neg h2, if_neg h2]
    by_cases h3 : x.f1 = 18446744073709551615
    · rw [if_pos h3, if_pos h3]
      by_cases h1 : x.f0 < least
      · rw [if_pos h1]
      · rw [if_neg h1]
    rw [if_neg h3, if_neg h3]
    have hr := hr h3
    by_cases h4 : j = 0
    · subst h4
      rw [dif_neg (by omega)] at hle
      subst hle
      rw [if_neg (by omega), if_neg (by omega), if_neg (by simp), hr]
    · have hj1 : j - 1 < l.length := by omega
      have hjj : 0 < j ∧ j - 1 < l.length := ⟨by omega, hj1⟩
      rw [dif_pos hjj] at hle
      have hmx := hmx hjj
      have hp := hwf l[j - 1] (List.getElem_mem hj1)
      have hw1 : wrap64 ((j : Int) - 1) = ((j - 1 : Nat) : Int) := by unfold wrap64; omega
      rw [if_pos (by omega), hw1, if_pos (by omega), if_pos (by omega), rd77 l (j - 1) hj1]
      generalize l[j - 1] = y at hp hmx hle ⊢
      have hwy : IntKind.u64.wrap (y.f1 + 2) = (y.f1 + 2) % 18446744073709551616 := rfl
      have hwz : IntKind.u64.wrap (y.f1 + 1) = (y.f1 + 1) % 18446744073709551616 := rfl
      rw [hwy] at hle
      rw [hwz]
      have ejf : (j == 0) = false := by simpa using h4
      rw [ejf]
      by_cases h5 : x.f0 ≤ y.f1
      · rw [if_pos h5]
        by_cases h1 : x.f0 < least
        · rw [if_pos h1]
        · rw [if_neg h1, if_pos ⟨rfl, by omega⟩]
      rw [if_neg h5]
      by_cases h6 : x.f0 = (y.f1 + 1) % 18446744073709551616
      · rw [if_pos h6]
        by_cases h1 : x.f0 < least
        · rw [if_pos h1]
        · rw [if_neg h1, if_pos ⟨rfl, by omega⟩]
      rw [if_neg h6, if_neg (by omega), if_neg (by rintro ⟨_, h⟩; omega), hr]
theorem ref12_is (l : List S77) (hl : l.length ≤ 4611686018427387904) (hwf : wfX l) (k : Nat) (hk : l.length < k) : conventicleref12_May.f k l = some (sepS l) := by
  have := ref12_l0 l hl hwf l.length 0 k 0 (by omega) hk rfl (fun h => by omega)
  exact this
theorem rd70' (l : List S70) (j : Nat) (h : j < l.length) : rd_T70 l (j : Int) = l[j] := by
  unfold rd_T70
  rw [Int.toNat_natCast, List.getD_eq_getElem?_getD, List.getElem?_eq_getElem h]; rfl
theorem rd90' (l : List S90) (j : Nat) (h : j < l.length) : rd_T90 l (j : Int) = l[j] := by
  unfold rd_T90
  rw [Int.toNat_natCast, List.getD_eq_getElem?_getD, List.getElem?_eq_getElem h]; rfl
theorem ref06_is (a b c : Int) : conventicleref06_May.f a b c = some (mayU ⟨a, b, c⟩) := by
  unfold conventicleref06_May.f mayU
  simp only [ge_iff_le]
  by_cases h1 : 0 ≤ a <;> by_cases h2 : a < 64 <;> by_cases h3 : 0 ≤ c <;> simp [h1, h2, h3]
theorem refnode_is (n : Int) : conventicleref15_node.f n = some (nodeB n) := by
  unfold conventicleref15_node.f nodeB
  simp only [ge_iff_le]
  by_cases h1 : 0 ≤ n <;> simp [h1]
theorem negF_is (x : Nat) : math_Signbit.f x = some (negF x) := rfl
section
variable (a0 a1 a2 a3 a4 : Int) (l5 : List S70) (a6 a7 a8 a9 a10 a11 a12 : Int) (l13 : List S90) (l14 : List S77) (a15 : Nat)
theorem ref15_l1 (hl : l13.length ≤ 4611686018427387904) : ∀ (n j k : Nat), j + n = l13.length → n < k →
    conventicleref15_May.l1 k (j : Int) a0 a1 a2 a3 a4 l5 a6 a7 a8 a9 a10 a11 a12 l13 l14 a15 = some (((l13.drop j).map from90).all mayP) := by
  intro n
  induction n with
  | zero =>
    intro j k hj hk
    obtain ⟨k, rfl⟩ : ∃ m, k = m + 1 := ⟨k - 1, by omega⟩
    rw [conventicleref15_May.l1, if_neg (by omega), List.drop_eq_nil_of_le (by omega)]
    rfl
  | succ n ih =>
    intro j k hj hk
    obtain ⟨k, rfl⟩ : ∃ m, k = m + 1 := ⟨k - 1, by omega⟩
    have hlt : j < l13.length := by omega
    have hw : wrap64 ((j : Int) + 1) = ((j + 1 : Nat) : Int) := by unfold wrap64; omega
    rw [conventicleref15_May.l1, if_pos (by omega), if_pos (by omega), rd90' l13 j hlt, List.drop_eq_getElem_cons hlt, List.map_cons, List.all_cons, refnode_is, Option.bind_some, hw, ih (j + 1) k (by omega) (by omega)]
    show _ = some ((nodeB l13[j].f1.f0 && decide ((l13[j].f1.f2.size : Int) ≤ 64)) && _)
    generalize l13[j] = x
    cases hn : nodeB x.f1.f0
    · rw [if_neg (by decide)]; rfl
    · rw [if_pos rfl]
      by_cases h6 : (x.f1.f2.size : Int) > 64
      · rw [if_pos h6, decide_eq_false (by omega)]; rfl
      · rw [if_neg h6, decide_eq_true (by omega)]; rfl
theorem ref15_l0 (hl : l13.length ≤ 4611686018427387904) (h5 : l5.length ≤ 4611686018427387904) : ∀ (n j k : Nat), j + n = l5.length → n + l13.length + 1 < k →
    conventicleref15_May.l0 k (j : Int) a0 a1 a2 a3 a4 l5 a6 a7 a8 a9 a10 a11 a12 l13 l14 a15 = some ((l5.drop j).all mayU && (l13.map from90).all mayP) := by
  intro n
  induction n with
  | zero =>
    intro j k hj hk
    obtain ⟨k, rfl⟩ : ∃ m, k = m + 1 := ⟨k - 1, by omega⟩
    rw [conventicleref15_May.l0, if_neg (by omega), List.drop_eq_nil_of_le (by omega)]
    have := ref15_l1 a0 a1 a2 a3 a4 l5 a6 a7 a8 a9 a10 a11 a12 l13 l14 a15 hl l13.length 0 k (by omega) (by omega)
    rw [List.drop_zero] at this
    exact this
  | succ n ih =>
    intro j k hj hk
    obtain ⟨k, rfl⟩ : ∃ m, k = m + 1 := ⟨k - 1, by omega⟩
    have hlt : j < l5.length := by omega
    have hw : wrap64 ((j : Int) + 1) = ((j + 1 : Nat) : Int) := by unfold wrap64; omega
    rw [conventicleref15_May.l0, if_pos (by omega), if_pos (by omega), rd70' l5 j hlt, List.drop_eq_getElem_cons hlt, List.all_cons, ref06_is, Option.bind_some, hw, ih (j + 1) k (by omega) (by omega)]
    cases hn : mayU ⟨l5[j].f0, l5[j].f1, l5[j].f2⟩
    · rw [if_neg (by decide)]; rfl
    · rw [if_pos rfl]; rfl
theorem order_three (x : Nat) (h : (FloatKind.f64.format.order x x != some Ordering.eq) = false) : (FloatKind.f64.format.order x 0 == some Ordering.lt) = !geF x := by
  unfold geF
  rw [ord] at h ⊢
  by_cases hn : Go.Proofs.YtondgoabnmgcaaaO.Flt.nan x = true
  · rw [if_pos (.inl hn)] at h; cases h
  · rw [if_neg (by rintro (h | h); exact hn h; exact absurd h (by decide +kernel))]
    cases compare (Go.Proofs.YtondgoabnmgcaaaO.Flt.num x) (Go.Proofs.YtondgoabnmgcaaaO.Flt.num 0) <;> rfl
theorem order_nan (x : Nat) (h : (FloatKind.f64.format.order x x != some Ordering.eq) = true) : geF x = false := by
  cases hg : geF x
  · rfl
  · have := ge_self x hg
    simp_all
theorem ref15_may (hl : l13.length ≤ 4611686018427387904) (h5 : l5.length ≤ 4611686018427387904) (h14 : l14.length ≤ 4611686018427387904) (hwf : wfX l14) (k : Nat) (hk : l5.length + l13.length + l14.length + 3 < k) :
    conventicleref15_May.f k a0 a1 a2 a3 a4 l5 a6 a7 a8 a9 a10 a11 a12 l13 l14 a15 = some (mayL a0 a1 a2 a4 l5 (l13.map from90) l14 a15) := by
  have hj : conventicleref15_May.j0 k true a0 a1 a2 a3 a4 l5 a6 a7 a8 a9 a10 a11 a12 l13 l14 a15 = some false := by
    obtain ⟨k, rfl⟩ : ∃ m, k = m + 1 := ⟨k - 1, by omega⟩
    rw [conventicleref15_May.j0, if_pos rfl]
  have hj2 : conventicleref15_May.j0 k false a0 a1 a2 a3 a4 l5 a6 a7 a8 a9 a10 a11 a12 l13 l14 a15 = some (l5.all mayU && (l13.map from90).all mayP) := by
    obtain ⟨k, rfl⟩ : ∃ m, k = m + 1 := ⟨k - 1, by omega⟩
    rw [conventicleref15_May.j0, if_neg (by decide)]
    have := ref15_l0 a0 a1 a2 a3 a4 l5 a6 a7 a8 a9 a10 a11 a12 l13 l14 a15 hl h5 l5.length 0 k (by omega) (by omega)
    rw [List.drop_zero] at this
    exact this
  unfold conventicleref15_May.f mayL
  rw [List.length_map]
  by_cases c1 : a0 < 1
  · rw [if_pos c1, hj, decide_eq_false (by omega)]; rfl
  rw [if_neg c1, decide_eq_true (show 1 ≤ a0 by omega), Bool.true_and]
  by_cases c2 : a0 > 14
  · rw [if_pos c2, hj, decide_eq_false (by omega)]; rfl
  rw [if_neg c2, decide_eq_true (show a0 ≤ 14 by omega), Bool.true_and, refnode_is, Option.bind_some]
  cases nodeB a1
  · rw [if_neg (by decide), hj]; rfl
  rw [if_pos rfl, refnode_is, Option.bind_some]
  cases nodeB a2
  · rw [if_neg (by decide), hj]; rfl
  rw [if_pos rfl, refnode_is, Option.bind_some]
  cases nodeB a4
  · rw [if_neg (by decide), hj]; rfl
  rw [if_pos rfl, Bool.true_and, Bool.true_and, Bool.true_and]
  by_cases c3 : (l5.length : Int) > 8
  · rw [if_pos c3, hj, decide_eq_false (by omega)]; rfl
  rw [if_neg c3, decide_eq_true (show (l5.length : Int) ≤ 8 by omega), Bool.true_and]
  by_cases c4 : (l13.length : Int) > 6
  · rw [if_pos c4, hj, decide_eq_false (by omega)]; rfl
  rw [if_neg c4, decide_eq_true (show (l13.length : Int) ≤ 6 by omega), Bool.true_and]
  by_cases c5 : (l14.length : Int) > 16
  · rw [if_pos c5, hj, decide_eq_false (by omega)]; rfl
  rw [if_neg c5, decide_eq_true (show (l14.length : Int) ≤ 16 by omega), Bool.true_and, ref12_is l14 h14 hwf k (by omega), Option.bind_some]
  cases sepS l14
  · rw [if_neg (by decide), hj]; simp
  rw [if_pos rfl, Bool.true_and]
  cases c6 : (FloatKind.f64.format.order a15 a15 != some Ordering.eq)
  · rw [if_neg (by decide), order_three a15 c6]
    cases geF a15
    · rw [if_pos (by decide), hj]; simp
    · rw [if_neg (by decide), negF_is, Option.bind_some]
      cases negF a15
      · rw [hj2]; simp
      · rw [hj]; simp
  · rw [if_pos rfl, hj, order_nan a15 c6]; simp
end
end Go.Proofs.Ytondgoabnmgcaaa.B
end
section
/- By hand: 'theirs' (printed by theirs.py). -/
namespace Go.Proofs.Ytondgoabnmgcaaa.B
open Go.RowKit Go.Proofs.YtondgoabnmgcaaaW.PrintWords Go.Proofs.YtondgoabnmgcaaaW.PrintLast Go.Proofs.YtondgoabnmgcaaaW.PrintMore
set_option linter.unusedSimpArgs false
set_option linter.unusedVariables false
def to90 (p : S53) : S90 := ⟨p.f0, p.f1⟩
theorem info90 : (Try.prog.info? 90).map (fun i => (i.zero, i.size, i.bytes)) = some (some (.agg #[(.int .u64 0), (.int .i64 0), (.int .u64 0), (.string ⟨#[]⟩)]), 4, 40) := by kernel_rfl
theorem si38 : (Try.prog.info? 38).map (·.size) = some 16 := by kernel_rfl
theorem own_typed' {α : Type} {d : Kd α} {e base : Nat} {ok : Nat → Prop} {w : World} {v : Value} {xs : List α} (h : Kd.R d e w base ok v xs) (k : Nat) (hk : v.ownBlock = some k) {cs : Array Value} {t : TypeId} (hb : w.heap[k]? = some (.cells cs t (0, 0))) : e = t := by
  obtain ⟨inner, ho, _⟩ := h.2
  obtain ⟨cells, hc⟩ := own_typed ho k hk
  rw [hc] at hb
  injection hb with hb
  injection hb
theorem row_step38 {w : World} {g : Nat} {cs : Array Value} {v : Value} {α : Type} {d : Kd α} {e base : Nat} {l : List α} (h : Kd.R d e w base (fun _ => True) v l) (hb : w.heap[g]? = some (.cells cs 38 (0, 0))) (ht : ∀ q, q ∈ e :: d.E → q ≠ 38) (cs' : Array Value) : Kd.R d e (w.setRow g cs') base (fun _ => True) v l := 
  Kd.R_mono (Kd.R_step (Kd.R_types h hb ht) (fun k hk _ => setRow_other w g k cs' hk.2)) (fun _ _ => trivial)
set_option maxRecDepth 100000 in
set_option maxHeartbeats 4000000 in
theorem theirs_at (a0 a1 a2 a3 a4 : Int) (A5 : Option Addr) (c5 : Nat) (l5 : List S70) (a6 a7 a8 a9 a10 a11 a12 : Int) (A13 : Option Addr) (c13 : Nat) (l13 : List S53) (A14 : Option Addr) (c14 : Nat) (l14 : List S77) (a15 : Nat) (w : World) (hr5 : Kd.C k70 w A5 l5.length l5) (hr13 : Kd.C k53 w A13 l13.length l13) (hr14 : Kd.C k77 w A14 l14.length l14) (hl : l13.length ≤ 1000) :
    Calls Try.prog 13 #[.agg #[.int .i64 a0, .int .i64 a1, .int .i64 a2, .int .u64 a3, .int .i64 a4, .slice A5 l5.length c5, .int .u64 a6, .int .u64 a7, .int .u64 a8, .int .u64 a9, .int .u64 a10, .int .u64 a11, .int .u64 a12, .slice A13 l13.length c13, .slice A14 l14.length c14, .float .f64 a15]] w fun e w' => ∃ v, e = .returned (.agg #[.int .i64 a0, .int .i64 a1, .int .i64 a2, .int .u64 a3, .int .i64 a4, .slice A5 l5.length c5, .int .u64 a6, .int .u64 a7, .int .u64 a8, .int .u64 a9, .int .u64 a10, .int .u64 a11, .int .u64 a12, v, .slice A14 l14.length c14, .float .f64 a15]) ∧ Kd.R k90 90 w' w.heap.size (fun _ => True) v (l13.map to90) ∧ Below w.heap.size w w' := by
  have H13 := Aside0.mk hr13
  have si38 := si38
  have hlen : (l13.length : Int) ≤ 9223372036854775807 := by omega
  have HL := Aside0.mk hl
  clear hr5 hr13 hr14 hl
  go_enter Try.func13, Try.ntmps13
  go_wp2_with (first
    | ((with_reducible refine gate_dst (N := 1) rfl ?_); refine box_event ?hg (N := 1) ?hd (cs := #[.int .i64 a0, .int .i64 a1, .int .i64 a2, .int .u64 a3, .int .i64 a4, .slice A5 l5.length c5, .int .u64 a6, .int .u64 a7, .int .u64 a8, .int .u64 a9, .int .u64 a10, .int .u64 a11, .int .u64 a12, .slice A13 l13.length c13, .slice A14 l14.length c14, .float .f64 a15]) (t := 32) ?hr ?_; (case hd => rfl); (case hg => rfl); (case hr => first | (go_simp; done) | (go_simp; rfl)); intro g1 hg_ w1 hb_ hB_; have K1 := Aside0.mk hb_; have B1 := Aside0.mk hB_; have x := fun j => blk_cell K1.out j; clear hg_ hb_ hB_)
    | ((with_reducible refine gate_dst (N := 2) rfl ?_); refine box_event ?hg (N := 2) ?hd (cs := #[.int .i64 0, .int .i64 0, .int .i64 0, .int .u64 0, .int .i64 0, .slice none 0 0, .int .u64 0, .int .u64 0, .int .u64 0, .int .u64 0, .int .u64 0, .int .u64 0, .int .u64 0, .slice none 0 0, .slice none 0 0, .float .f64 0]) (t := 38) ?hr ?_; (case hd => rfl); (case hg => rfl); (case hr => first | (go_simp; done) | (go_simp; rfl)); intro g2 hg_ w2 hb_ hB_; have K2 := Aside0.mk hb_; have K1b := Aside0.mk (blk_below K1.out hB_); have B2 := Aside0.mk (below_step B1.out hB_); have L2 := Aside0.mk (show w.heap.size ≤ g2 by rw [hg_]; exact B1.out.size); clear x hg_ hb_ hB_; have x := fun j => blk_cell K1b.out j)
    | ((with_reducible refine gate_dst (N := 3) rfl ?_); refine box_event ?hg (N := 3) ?hd (cs := #[.int .i64 0, .int .i64 0, .int .i64 0, .int .u64 0, .int .i64 0, .slice none 0 0, .int .u64 0, .int .u64 0, .int .u64 0, .int .u64 0, .int .u64 0, .int .u64 0, .int .u64 0, .slice none 0 0, .slice none 0 0, .float .f64 0]) (t := 38) ?hr ?_; (case hd => rfl); (case hg => rfl); (case hr => first | (go_simp; done) | (go_simp; rfl)); intro g3 hg_ w3 hb_ hB_; have K3 := Aside0.mk hb_; have K1c := Aside0.mk (blk_below K1b.out hB_); have K2c := Aside0.mk (blk_below K2.out hB_); have B3 := Aside0.mk (below_step B2.out hB_); have L3 := Aside0.mk (show w.heap.size ≤ g3 by rw [hg_]; exact B2.out.size); have N13 := Aside0.mk (show g1 ≠ g3 by have := blk_lt K1b.out; omega); have N23 := Aside0.mk (show g2 ≠ g3 by have := blk_lt K2.out; omega); clear x K1 K1b K2 B1 B2 hg_ hb_ hB_; have x := fun j => blk_cell K1c.out j)
    | ((with_reducible refine gate_store (t := 38) (p := 3) rfl ?_); go_loud (refine wpList_store_row rfl 38 (.tmp 3) (.tmp 31) rfl g3 #[.int .i64 a0, .int .i64 a1, .int .i64 a2, .int .u64 a3, .int .i64 a4, .slice A5 l5.length c5, .int .u64 a6, .int .u64 a7, .int .u64 a8, .int .u64 a9, .int .u64 a10, .int .u64 a11, .int .u64 a12, .slice none 0 0, .slice A14 l14.length c14, .float .f64 a15] rfl rfl 38 #[.int .i64 0, .int .i64 0, .int .i64 0, .int .u64 0, .int .i64 0, .slice none 0 0, .int .u64 0, .int .u64 0, .int .u64 0, .int .u64 0, .int .u64 0, .int .u64 0, .int .u64 0, .slice none 0 0, .slice none 0 0, .float .f64 0] K3.out si38 rfl (one_L _ _ _ _ _ _ _ _ _ _ _ _ _ _ _ _ _ _ _ _ _ _) ?_); have K3d := Aside0.mk (setRow_heap w3 g3 #[.int .i64 0, .int .i64 0, .int .i64 0, .int .u64 0, .int .i64 0, .slice none 0 0, .int .u64 0, .int .u64 0, .int .u64 0, .int .u64 0, .int .u64 0, .int .u64 0, .int .u64 0, .slice none 0 0, .slice none 0 0, .float .f64 0] #[.int .i64 a0, .int .i64 a1, .int .i64 a2, .int .u64 a3, .int .i64 a4, .slice A5 l5.length c5, .int .u64 a6, .int .u64 a7, .int .u64 a8, .int .u64 a9, .int .u64 a10, .int .u64 a11, .int .u64 a12, .slice none 0 0, .slice A14 l14.length c14, .float .f64 a15] 38 (0, 0) K3.out); have K1d := Aside0.mk ((setRow_other w3 g3 g1 #[.int .i64 a0, .int .i64 a1, .int .i64 a2, .int .u64 a3, .int .i64 a4, .slice A5 l5.length c5, .int .u64 a6, .int .u64 a7, .int .u64 a8, .int .u64 a9, .int .u64 a10, .int .u64 a11, .int .u64 a12, .slice none 0 0, .slice A14 l14.length c14, .float .f64 a15] N13.out).trans K1c.out); have K2d := Aside0.mk ((setRow_other w3 g3 g2 #[.int .i64 a0, .int .i64 a1, .int .i64 a2, .int .u64 a3, .int .i64 a4, .slice A5 l5.length c5, .int .u64 a6, .int .u64 a7, .int .u64 a8, .int .u64 a9, .int .u64 a10, .int .u64 a11, .int .u64 a12, .slice none 0 0, .slice A14 l14.length c14, .float .f64 a15] N23.out).trans K2c.out); have B4 := Aside0.mk (below_setRow B3.out L3.out #[.int .i64 a0, .int .i64 a1, .int .i64 a2, .int .u64 a3, .int .i64 a4, .slice A5 l5.length c5, .int .u64 a6, .int .u64 a7, .int .u64 a8, .int .u64 a9, .int .u64 a10, .int .u64 a11, .int .u64 a12, .slice none 0 0, .slice A14 l14.length c14, .float .f64 a15]); generalize World.setRow w3 g3 _ = w4 at K3d K1d K2d B4 ⊢; clear x K3 K1c K2c B3))
  go_loopw [4] (fun i wr => ∃ (j : Nat) (v : Value), i = .int .i64 j ∧ Aside0 (j ≤ l13.length) ∧ Aside0 (wr.heap[g1]? = some (.cells #[.int .i64 a0, .int .i64 a1, .int .i64 a2, .int .u64 a3, .int .i64 a4, .slice A5 l5.length c5, .int .u64 a6, .int .u64 a7, .int .u64 a8, .int .u64 a9, .int .u64 a10, .int .u64 a11, .int .u64 a12, .slice A13 l13.length c13, .slice A14 l14.length c14, .float .f64 a15] 32 (0, 0))) ∧ Aside0 (wr.heap[g2]? = some (.cells #[.int .i64 0, .int .i64 0, .int .i64 0, .int .u64 0, .int .i64 0, .slice none 0 0, .int .u64 0, .int .u64 0, .int .u64 0, .int .u64 0, .int .u64 0, .int .u64 0, .int .u64 0, .slice none 0 0, .slice none 0 0, .float .f64 0] 38 (0, 0))) ∧ Aside0 (wr.heap[g3]? = some (.cells #[.int .i64 a0, .int .i64 a1, .int .i64 a2, .int .u64 a3, .int .i64 a4, .slice A5 l5.length c5, .int .u64 a6, .int .u64 a7, .int .u64 a8, .int .u64 a9, .int .u64 a10, .int .u64 a11, .int .u64 a12, v, .slice A14 l14.length c14, .float .f64 a15] 38 (0, 0))) ∧ Aside0 (Kd.R k90 90 wr w.heap.size (fun b => b ≠ g3) v ((l13.take j).map to90)) ∧ Aside0 (Below w.heap.size w wr))
    (fun i _ => l13.length - (intOf i).toNat)
  case atStart => exact ⟨0, .slice none 0 0, rfl, ⟨Nat.zero_le _⟩, K1d, K2d, K3d, ⟨Kd.R_nil _ _ _ _ _⟩, B4⟩
  case round =>
    obtain ⟨j, v, rfl, hj, K1, K2, K3, HO, HB⟩ := hrel
    clear K1d K2d K3d B4
    have x := fun i => blk_cell K1.out i
    by_cases hlt : j < l13.length
    · have HRr := Kd.C_below H13.out HB.out
      obtain ⟨ad, e, hy0, hy1, hy2, hy3⟩ := at_T53 HRr (j : Int) (by omega) (by have := HRr.2.1; omega)
      simp only [Int.toNat_natCast] at hy0 hy1 hy2 hy3
      obtain rfl := e
      obtain ⟨p, hp⟩ : ∃ p, p = rd_T53 l13 (j : Int) := ⟨_, rfl⟩
      have hlp : l13[j]? = some p := by
        rw [hp]
        unfold rd_T53
        rw [Int.toNat_natCast, List.getD_eq_getElem?_getD, List.getElem?_eq_getElem hlt]; rfl
      have HTK : Aside0 ((l13.take (j + 1)).map to90 = (l13.take j).map to90 ++ [to90 p]) := ⟨by
        obtain ⟨h1, h2⟩ := List.getElem?_eq_some_iff.1 hlp
        rw [List.take_succ_eq_append_getElem h1, List.map_append, h2]; rfl⟩
      rw [← hp] at hy0 hy1 hy2 hy3
      clear hp hlp HRr
      obtain ⟨f0, f1, f2, f3⟩ := p
      dsimp only at hy0 hy1 hy2 hy3
      have E0 : Aside0 (wr.drew.cell? (ad.add (j * 4)) = some (.int .u64 f0)) := ⟨hy0⟩
      have E1 : Aside0 (wr.drew.cell? ⟨(ad.add (j * 4)).block, (ad.add (j * 4)).off + 1, none⟩ = some (.int .i64 f1)) := ⟨hy1⟩
      have E2 : Aside0 (wr.drew.cell? ⟨(ad.add (j * 4)).block, (ad.add (j * 4)).off + 2, none⟩ = some (.int .u64 f2)) := ⟨hy2⟩
      have E3 : Aside0 (wr.drew.cell? ⟨(ad.add (j * 4)).block, (ad.add (j * 4)).off + 3, none⟩ = some (.string f3)) := ⟨hy3⟩
      have K1d := Aside0.mk (blk_drew K1.out)
      have K2d := Aside0.mk (blk_drew K2.out)
      have K3d := Aside0.mk (blk_drew K3.out)
      have HOd := Aside0.mk (Kd.R_drew HO.out)
      have HBd := Aside0.mk (below_drew1 HB.out)
      have HSd := Aside0.mk HBd.out.size
      have G1D := Aside0.mk (blk_lt K1d.out)
      have G2D := Aside0.mk (blk_lt K2d.out)
      have G3D := Aside0.mk (blk_lt K3d.out)
      have NLE : Aside0 ((((l13.take j).map to90).length + 1) * 40 ≤ 140737488355328) := ⟨by rw [List.length_map, List.length_take]; have := HL.out; omega⟩
      clear hy0 hy1 hy2 hy3
      go_upto_region 5 with (fail)
      refine start_ (n := 11) (S := fun w' => w'.cell? ⟨g3, 13, none⟩ = some v ∧ w'.cell? ⟨g1, 13, none⟩ = some (.slice (some ad) l13.length c13) ∧ w'.cell? (ad.add (j * 4)) = some (.int .u64 f0) ∧ w'.cell? ⟨(ad.add (j * 4)).block, (ad.add (j * 4)).off + 1, none⟩ = some (.int .i64 f1) ∧ w'.cell? ⟨(ad.add (j * 4)).block, (ad.add (j * 4)).off + 2, none⟩ = some (.int .u64 f2) ∧ w'.cell? ⟨(ad.add (j * 4)).block, (ad.add (j * 4)).off + 3, none⟩ = some (.string f3)) (ds := [8, 10]) #[false, false, false, false, false, false, false, false, false, false, false] (by kernel_rfl) rfl rfl ⟨(blk_cell K3d.out 13).trans rfl, (blk_cell K1d.out 13).trans rfl, E0.out, E1.out, E2.out, E3.out⟩ (fun hHeld => ?_)
      generalize wr.drew = wd at K1d K2d K3d HOd HBd HSd G1D G2D G3D E0 E1 E2 E3 hHeld ⊢
      have BA : ∀ o, Below wd.heap.size wd (wd.alloc o) := fun o => below_alloc (Below.refl _ _) o
      have EB : ∀ {w5 : World}, Below wd.heap.size wd w5 → (w5.cell? (ad.add (j * 4)) = some (.int .u64 f0) ∧ w5.cell? ⟨(ad.add (j * 4)).block, (ad.add (j * 4)).off + 1, none⟩ = some (.int .i64 f1) ∧ w5.cell? ⟨(ad.add (j * 4)).block, (ad.add (j * 4)).off + 2, none⟩ = some (.int .u64 f2) ∧ w5.cell? ⟨(ad.add (j * 4)).block, (ad.add (j * 4)).off + 3, none⟩ = some (.string f3)) := fun hb => ⟨(hb.cell (World.block_lt_of_cell? wd _ E0.out)).trans E0.out, (hb.cell (World.block_lt_of_cell? wd _ E1.out)).trans E1.out, (hb.cell (World.block_lt_of_cell? wd _ E2.out)).trans E2.out, (hb.cell (World.block_lt_of_cell? wd _ E3.out)).trans E3.out⟩
      have N1V := Aside0.mk (show some g1 ≠ v.ownBlock from fun e => absurd (own_typed' HOd.out g1 e.symm K1d.out) (by decide))
      have N2V := Aside0.mk (show some g2 ≠ v.ownBlock from fun e => absurd (own_typed' HOd.out g2 e.symm K2d.out) (by decide))
      refine pure_ (i := 0) (N := some 39) (v := ?_) (a' := ?_) #[true, false, false, false, false, false, false, false, false, false, false] rfl rfl (by kernel_rfl) (fun _ _ _ h => h) (Or.inl ⟨by rfl, ?_⟩) ?_ ?_
      rotate_left
      · intro w'
        go_simp
        first | done | with_reducible rfl | rfl | (simp [Instr.field, go_sem]; rfl)
      rotate_left
      · simp only [Act.put, List.setIfInBounds_toArray, List.set_cons_zero, List.set_cons_succ, i64_w, i32_w]
        rfl
      refine pure_ (i := 2) (N := some 41) (v := ?_) (a' := ?_) #[true, false, true, false, false, false, false, false, false, false, false] rfl rfl (by kernel_rfl) (fun _ _ _ h => h) (Or.inl ⟨by rfl, ?_⟩) ?_ ?_
      rotate_left
      · intro w'
        go_simp
        first | done | with_reducible rfl | rfl | (simp [Instr.field, go_sem]; rfl)
      rotate_left
      · simp only [Act.put, List.setIfInBounds_toArray, List.set_cons_zero, List.set_cons_succ, i64_w, i32_w]
        rfl
      refine pure_ (i := 4) (N := some 43) (v := ?_) (a' := ?_) #[true, false, true, false, true, false, false, false, false, false, false] rfl rfl (by kernel_rfl) (fun _ _ _ h => h) (Or.inl ⟨by rfl, ?_⟩) ?_ ?_
      rotate_left
      · intro w'
        go_simp
        first | done | with_reducible rfl | rfl | (simp [Instr.field, go_sem]; rfl)
      rotate_left
      · simp only [Act.put, List.setIfInBounds_toArray, List.set_cons_zero, List.set_cons_succ, i64_w, i32_w]
        rfl
      refine take_ (i := 1) (N := some 40) (v := ?_) (a' := ?_) #[true, true, true, false, true, false, false, false, false, false, false] rfl rfl (by kernel_rfl) (fun _ _ _ h => h) (Or.inl ⟨by rfl, ?_⟩) hHeld ?_ ?_
      rotate_left
      · rintro w' ⟨s0, s1, s2, s3, s4, s5⟩
        go_simp
        first | done | with_reducible rfl | rfl | (simp [Instr.field, go_sem]; rfl)
      rotate_left
      · simp only [Act.put, List.setIfInBounds_toArray, List.set_cons_zero, List.set_cons_succ, i64_w, i32_w]
        rfl
      refine take_ (i := 3) (N := some 42) (v := ?_) (a' := ?_) #[true, true, true, true, true, false, false, false, false, false, false] rfl rfl (by kernel_rfl) (fun _ _ _ h => h) (Or.inl ⟨by rfl, ?_⟩) hHeld ?_ ?_
      rotate_left
      · rintro w' ⟨s0, s1, s2, s3, s4, s5⟩
        go_simp
        first | done | with_reducible rfl | rfl | (simp [Instr.field, go_sem]; rfl)
      rotate_left
      · simp only [Act.put, List.setIfInBounds_toArray, List.set_cons_zero, List.set_cons_succ, i64_w, i32_w]
        rfl
      refine pure_ (i := 5) (N := some 44) (v := ?_) (a' := ?_) #[true, true, true, true, true, true, false, false, false, false, false] rfl rfl (by kernel_rfl) (fun _ _ _ h => h) (Or.inl ⟨by rfl, ?_⟩) ?_ ?_
      rotate_left
      · intro w'
        go_simp
        first | done | with_reducible rfl | rfl | (simp [Instr.field, go_sem]; rfl)
      rotate_left
      · simp only [Act.put, List.setIfInBounds_toArray, List.set_cons_zero, List.set_cons_succ, i64_w, i32_w]
        rfl
      refine take_ (i := 6) (N := some 45) (v := ?_) (a' := ?_) #[true, true, true, true, true, true, true, false, false, false, false] rfl rfl (by kernel_rfl) (fun _ _ _ h => h) (Or.inl ⟨by rfl, ?_⟩) hHeld ?_ ?_
      rotate_left
      · rintro w' ⟨s0, s1, s2, s3, s4, s5⟩
        go_simp
        first | done | with_reducible rfl | rfl | (simp [Instr.field, go_sem]; rfl)
      rotate_left
      · simp only [Act.put, List.setIfInBounds_toArray, List.set_cons_zero, List.set_cons_succ, i64_w, i32_w]
        rfl
      refine one_ (i := 7) (N := some 46) #[true, true, true, true, true, true, true, true, false, false, false] rfl rfl (by kernel_rfl) (by decide) (fun K hK => ?_)
      refine value_ (w1 := ?_) (v := ?_) (by rfl) rfl ?_ ?_
      rotate_left 2
      · go_simp
        constructor
        · rfl
        · rfl
      refine hK _ _ ⟨(blk_cell (blk_below K3d.out (BA _)) 13).trans rfl, (blk_cell (blk_below K1d.out (BA _)) 13).trans rfl, EB (BA _)⟩ (fun hHeld => ?_)
      clear hK K
      refine norm_ (a' := ?_) ?_ ?_
      rotate_left
      · show Act.put _ (some 46) _ = _
        simp only [Act.put, List.setIfInBounds_toArray, List.set_cons_zero, List.set_cons_succ, i64_w, i32_w]
        rfl
      refine last_ (i := 8) (N := some 47) #[true, true, true, true, true, true, true, true, true, false, false] rfl rfl (by kernel_rfl) (by decide) (fun K hK => ?_)
      refine Kd.R_append_step k90 (w0 := wd) w.heap.size (by rfl) (.tmp 40) (.tmp 46) 36 90 (.agg #[(.int .u64 0), (.int .i64 0), (.int .u64 0), (.string ⟨#[]⟩)]) 40 rfl Try.underlying36 info90 rfl (by decide) (by omega) v ((l13.take j).map to90) ⟨f0, ⟨f1, f2, f3⟩⟩ [.int .u64 f0, .int .i64 f1, .int .u64 f2, .string f3] (fun b => b ≠ g3) (fun _ => False) rfl rfl ?aP (fun _ hk => hk.elim) ?aF ?aO (Below.refl _ _) ?aS ?aL ?_
      case aP => exact k90_mkM _ _ _ ⟨f0, ⟨f1, f2, f3⟩⟩
      case aF => exact fun b hb => by have := G3D.out; omega
      case aO => exact HOd.out
      case aS => exact HSd.out
      case aL => exact NLE.out
      intro v1 w5 ho5 hb5 hg5 hat5
      rw [show (l13.take j).map to90 ++ [(⟨f0, ⟨f1, f2, f3⟩⟩ : S90)] = (l13.take (j + 1)).map to90 from HTK.out.symm] at ho5
      obtain ⟨r1, hr1⟩ : ∃ r1, r1 = (l13.take (j + 1)).map to90 := ⟨_, rfl⟩
      rw [← hr1] at ho5
      have HR1 := Aside0.mk hr1
      clear hr1
      obtain ⟨A1, c1, rfl⟩ := Kd.R_slice ho5
      have K3e := Aside0.mk ((hg5.block g3 G3D.out (by intro e; exact absurd rfl (HOd.out.1 g3 e.symm))).trans K3d.out)
      have K1e := Aside0.mk ((hg5.block g1 G1D.out (by intro e; exact N1V.out e)).trans K1d.out)
      have K2e := Aside0.mk ((hg5.block g2 G2D.out (by intro e; exact N2V.out e)).trans K2d.out)
      have HO5 := Aside0.mk ho5
      have HB5 := Aside0.mk hb5
      clear ho5 hb5 hg5 hat5
      refine hK _ _ ?_
      clear hK K
      refine norm_ (a' := ?_) ?_ ?_
      rotate_left
      · show Act.put _ (some 47) _ = _
        simp only [Act.put, List.setIfInBounds_toArray, List.set_cons_zero, List.set_cons_succ, i64_w, i32_w]
        rfl
      refine pure_ (i := 9) (N := some 48) (v := ?_) (a' := ?_) #[true, true, true, true, true, true, true, true, true, true, false] rfl rfl (by kernel_rfl) (fun _ _ _ h => h) (Or.inl ⟨by rfl, ?_⟩) ?_ ?_
      rotate_left
      · intro w'
        go_simp
        first | done | with_reducible rfl | rfl | (simp [Instr.field, go_sem]; rfl)
      rotate_left
      · simp only [Act.put, List.setIfInBounds_toArray, List.set_cons_zero, List.set_cons_succ, i64_w, i32_w]
        rfl
      refine last_ (i := 10) (N := none) #[true, true, true, true, true, true, true, true, true, true, true] rfl rfl (by kernel_rfl) (by decide) (fun K hK => ?_)
      have z3 := (blk_cell K3e.out 13).trans rfl
      have zf3 := blk_frozen K3e.out 13
      refine skip_ (w1 := ?_) (by rfl) rfl ?_ ?_
      rotate_left
      · go_simp
        rfl
      refine hK _ _ ?_
      clear hK K
      refine done_ (by kernel_rfl) ?_
      have Q3 : Aside0 ((w5.setCell ⟨g3, 13, none⟩ (.slice A1 r1.length c1)).heap[g3]? = some (.cells #[.int .i64 a0, .int .i64 a1, .int .i64 a2, .int .u64 a3, .int .i64 a4, .slice A5 l5.length c5, .int .u64 a6, .int .u64 a7, .int .u64 a8, .int .u64 a9, .int .u64 a10, .int .u64 a11, .int .u64 a12, .slice A1 r1.length c1, .slice A14 l14.length c14, .float .f64 a15] 38 (0, 0))) := ⟨blk_put K3e.out 13 (.slice A1 r1.length c1) rfl⟩
      go_wp2
      go_roundw
      case rel => exact ⟨j + 1, .slice A1 r1.length c1, by go_num, ⟨hlt⟩, ⟨blk_far (p := ⟨g3, 13, none⟩) K1e.out N13.out _⟩, ⟨blk_far (p := ⟨g3, 13, none⟩) K2e.out N23.out _⟩, Q3, ⟨by rw [← HR1.out]; exact Kd.R_far (p := ⟨g3, 13, none⟩) HO5.out (fun _ h => h) _⟩, ⟨below_set (HBd.out.trans HB5.out) L3.out⟩⟩
      case measure => have := HL.out; simp [intOf]; omega
    · obtain rfl : j = l13.length := by have := hj.out; omega
      have HO1 : Aside0 (Kd.R k90 90 wr w.heap.size (fun b => b ≠ g3) v (l13.map to90)) := ⟨by have h := HO.out; rwa [List.take_length] at h⟩
      clear HO
      obtain ⟨r1, hr1⟩ : ∃ r1, r1 = l13.map to90 := ⟨_, rfl⟩
      rw [← hr1] at HO1
      obtain ⟨A9, c9, rfl⟩ := Kd.R_slice HO1.out
      have HR1 := Aside0.mk hr1
      clear hr1
      have y := fun i => blk_cell K3.out i
      go_wp2_with ((with_reducible refine gate_store (t := 38) (p := 2) rfl ?_); go_loud (refine wpList_store_row rfl 38 (.tmp 2) (.tmp 49) rfl g2 #[.int .i64 a0, .int .i64 a1, .int .i64 a2, .int .u64 a3, .int .i64 a4, .slice A5 l5.length c5, .int .u64 a6, .int .u64 a7, .int .u64 a8, .int .u64 a9, .int .u64 a10, .int .u64 a11, .int .u64 a12, .slice A9 r1.length c9, .slice A14 l14.length c14, .float .f64 a15] rfl rfl 38 #[.int .i64 0, .int .i64 0, .int .i64 0, .int .u64 0, .int .i64 0, .slice none 0 0, .int .u64 0, .int .u64 0, .int .u64 0, .int .u64 0, .int .u64 0, .int .u64 0, .int .u64 0, .slice none 0 0, .slice none 0 0, .float .f64 0] K2.out si38 rfl (one_L _ _ _ _ _ _ _ _ _ _ _ _ _ _ _ _ _ _ _ _ _ _) ?_); have K2e := Aside0.mk (setRow_heap wr g2 #[.int .i64 0, .int .i64 0, .int .i64 0, .int .u64 0, .int .i64 0, .slice none 0 0, .int .u64 0, .int .u64 0, .int .u64 0, .int .u64 0, .int .u64 0, .int .u64 0, .int .u64 0, .slice none 0 0, .slice none 0 0, .float .f64 0] #[.int .i64 a0, .int .i64 a1, .int .i64 a2, .int .u64 a3, .int .i64 a4, .slice A5 l5.length c5, .int .u64 a6, .int .u64 a7, .int .u64 a8, .int .u64 a9, .int .u64 a10, .int .u64 a11, .int .u64 a12, .slice A9 r1.length c9, .slice A14 l14.length c14, .float .f64 a15] 38 (0, 0) K2.out); have HB2 := Aside0.mk (below_setRow HB.out L2.out #[.int .i64 a0, .int .i64 a1, .int .i64 a2, .int .u64 a3, .int .i64 a4, .slice A5 l5.length c5, .int .u64 a6, .int .u64 a7, .int .u64 a8, .int .u64 a9, .int .u64 a10, .int .u64 a11, .int .u64 a12, .slice A9 r1.length c9, .slice A14 l14.length c14, .float .f64 a15]); have HO2 := Aside0.mk (row_step38 (Kd.R_mono HO1.out (fun _ _ => trivial)) K2.out (by decide) #[.int .i64 a0, .int .i64 a1, .int .i64 a2, .int .u64 a3, .int .i64 a4, .slice A5 l5.length c5, .int .u64 a6, .int .u64 a7, .int .u64 a8, .int .u64 a9, .int .u64 a10, .int .u64 a11, .int .u64 a12, .slice A9 r1.length c9, .slice A14 l14.length c14, .float .f64 a15]); generalize World.setRow wr g2 _ = w9 at K2e HB2 HO2 ⊢; clear x y K1 K2 K3 HO1 HB)
      refine bodyPost_ret (v := .agg #[.int .i64 a0, .int .i64 a1, .int .i64 a2, .int .u64 a3, .int .i64 a4, .slice A5 l5.length c5, .int .u64 a6, .int .u64 a7, .int .u64 a8, .int .u64 a9, .int .u64 a10, .int .u64 a11, .int .u64 a12, .slice A9 r1.length c9, .slice A14 l14.length c14, .float .f64 a15]) (results_cell_row (fn := Try.f13) (p := 2) (ty := 38) (by kernel_rfl) _ _ g2 38 #[.int .i64 a0, .int .i64 a1, .int .i64 a2, .int .u64 a3, .int .i64 a4, .slice A5 l5.length c5, .int .u64 a6, .int .u64 a7, .int .u64 a8, .int .u64 a9, .int .u64 a10, .int .u64 a11, .int .u64 a12, .slice A9 r1.length c9, .slice A14 l14.length c14, .float .f64 a15] (0, 0) _ rfl K2e.out Try.underlying38 rfl si38) rfl ?_
      exact ⟨_, rfl, by rw [← HR1.out]; exact HO2.out, HB2.out⟩
end Go.Proofs.Ytondgoabnmgcaaa.B
end
section
/- A heavy letter, in plain words; how long a letter's bytes are. -/
namespace Go.Proofs.Ytondgoabnmgcaaa.Pure
open Go.RowKit Go.Proofs.Ytondgoabnmgcaaa.B Go.Proofs.YtondgoabnmgcaaaW.PrintWords Go.Proofs.YtondgoabnmgcaaaW.PrintLast
open Go.Proofs.YtondgoabnmgcaaaO.R (le le_length rbits)
set_option linter.unusedVariables false
theorem rd53 (l : List S53) (j : Nat) (h : j < l.length) : rd_T53 l (j : Int) = l[j] := by
  unfold rd_T53
  rw [Int.toNat_natCast, List.getD_eq_getElem?_getD, List.getElem?_eq_getElem h]; rfl
def longP (p : S53) : Bool := decide ((p.f1.f2.size : Int) > 100)
section
variable (a0 a1 a2 a3 a4 : Int) (l5 : List S70) (a6 a7 a8 a9 a10 a11 a12 : Int) (l13 : List S53) (l14 : List S77) (a15 : Nat)
theorem heavy_l0 (hl : l13.length ≤ maxLen) : ∀ (n j k : Nat), j + n = l13.length → n < k →
    conventiclelaw15_heavy.l0 k (j : Int) a0 a1 a2 a3 a4 l5 a6 a7 a8 a9 a10 a11 a12 l13 l14 a15 = some ((l13.drop j).any longP) := by
  intro n
  induction n with
  | zero =>
    intro j k hj hk
    obtain ⟨k, rfl⟩ : ∃ m, k = m + 1 := ⟨k - 1, by omega⟩
    rw [conventiclelaw15_heavy.l0, if_neg (by omega), List.drop_eq_nil_of_le (by omega)]
    rfl
  | succ n ih =>
    intro j k hj hk
    obtain ⟨k, rfl⟩ : ∃ m, k = m + 1 := ⟨k - 1, by omega⟩
    have hlt : j < l13.length := by omega
    rw [conventiclelaw15_heavy.l0, if_pos (by omega), if_pos (by omega), rd53 l13 j hlt, List.drop_eq_getElem_cons hlt, List.any_cons]
    have hw : wrap64 ((j : Int) + 1) = ((j + 1 : Nat) : Int) := by unfold wrap64; unfold maxLen at hl; omega
    by_cases h1 : (l13[j].f1.f2.size : Int) > 100
    · rw [if_pos h1]
      have : longP l13[j] = true := by unfold longP; exact decide_eq_true h1
      rw [this, Bool.true_or]
    · rw [if_neg h1, hw, ih (j + 1) k (by omega) (by omega)]
      have : longP l13[j] = false := by unfold longP; exact decide_eq_false h1
      rw [this, Bool.false_or]
def heavyB : Bool := decide ((l5.length : Int) > 30) || (decide ((l13.length : Int) > 30) || (decide ((l14.length : Int) > 40) || l13.any longP))
theorem heavy_is (hl : l13.length ≤ maxLen) (k : Nat) (hk : l13.length + 1 < k) : conventiclelaw15_heavy.f k a0 a1 a2 a3 a4 l5 a6 a7 a8 a9 a10 a11 a12 l13 l14 a15 = some (heavyB l5 l13 l14) := by
  obtain ⟨k, rfl⟩ : ∃ m, k = m + 1 := ⟨k - 1, by omega⟩
  have h0 := heavy_l0 a0 a1 a2 a3 a4 l5 a6 a7 a8 a9 a10 a11 a12 l13 l14 a15 hl l13.length 0 k (by omega) (by omega)
  rw [List.drop_zero] at h0
  unfold conventiclelaw15_heavy.f heavyB
  by_cases h1 : (l5.length : Int) > 30
  · rw [if_pos h1, conventiclelaw15_heavy.j0, if_pos rfl, decide_eq_true h1, Bool.true_or]
  rw [if_neg h1, decide_eq_false h1, Bool.false_or]
  by_cases h2 : (l13.length : Int) > 30
  · rw [if_pos h2, conventiclelaw15_heavy.j0, if_pos rfl, decide_eq_true h2, Bool.true_or]
  rw [if_neg h2, decide_eq_false h2, Bool.false_or]
  by_cases h3 : (l14.length : Int) > 40
  · rw [decide_eq_true h3, conventiclelaw15_heavy.j0, if_pos rfl, Bool.true_or]
  rw [decide_eq_false h3, conventiclelaw15_heavy.j0, if_neg (by decide), Bool.false_or]
  exact h0
def sumP : List S53 → Nat
  | [] => 0
  | p :: l => 19 + p.f1.f2.size + sumP l
theorem len_encU (l : List S70) : (l.flatMap encU).length = 10 * l.length := by
  induction l with
  | nil => rfl
  | cons u l ih => rw [List.flatMap_cons, List.length_append, ih, encU, List.length_append, List.length_append, le_length, le_length, le_length, List.length_cons]; omega
theorem len_encX (l : List S77) : (l.flatMap encX).length = 16 * l.length := by
  induction l with
  | nil => rfl
  | cons u l ih => rw [List.flatMap_cons, List.length_append, ih, encX, List.length_append, le_length, le_length, List.length_cons]; omega
theorem len_encP (l : List S53) : (l.flatMap encP).length = sumP l := by
  induction l with
  | nil => rfl
  | cons p l ih =>
    rw [List.flatMap_cons, List.length_append, ih, encP, List.length_append, List.length_append, List.length_append, List.length_append, le_length, le_length, le_length, le_length, bytesOf_length, sumP]
    omega
theorem len_encL : (encL a0 a1 a2 a3 a4 l5 a6 a7 a8 a9 a10 a11 a12 l13 l14 a15).length = 79 + 10 * l5.length + sumP l13 + 16 * l14.length := by
  unfold encL
  simp only [List.length_append, le_length, len_encU, len_encP, len_encX, List.length_nil]
  omega
theorem sumP_le : ∀ (l : List S53), (∀ p ∈ l, p.f1.f2.size ≤ 64) → sumP l ≤ 83 * l.length
  | [], _ => by simp [sumP]
  | p :: l, h => by
    have := sumP_le l (fun q hq => h q (List.mem_cons_of_mem _ hq))
    have h1 := h p List.mem_cons_self
    rw [sumP, List.length_cons]
    omega
end
theorem u64_wf {n : Int} (h : (Lit.int .u64 n).wf = true) : u64B n = true := by
  have : 0 ≤ n ∧ n < 18446744073709551616 := by
    simp [Lit.wf, IntKind.min, IntKind.max, IntKind.signed, IntKind.bits] at h; omega
  simpa [u64B] using this
end Go.Proofs.Ytondgoabnmgcaaa.Pure
end
section
/- By hand: what was encoded is decoded: the plain law. -/
namespace Go.Proofs.Ytondgoabnmgcaaa.B
open Go.RowKit Go.Proofs.YtondgoabnmgcaaaW.PrintWords Go.Proofs.YtondgoabnmgcaaaW.PrintLast Go.Proofs.YtondgoabnmgcaaaW.PrintMore
open Go.Proofs.YtondgoabnmgcaaaO.R (rdv rdv_range rbits rdv_front cut_back bytesOf_byte le le_length le_byte)
open Go.Proofs.Ytondgoabnmgcaaa.Pure (len_encU len_encX len_encP len_encL sumP)
/-- the bytes L stand at p -/
def At (S : ByteArray) (p : Nat) (L : List Int) : Prop := ∃ A C, S = strOfNums (A ++ L ++ C) ∧ A.length = p ∧ ∀ x ∈ A ++ L ++ C, 0 ≤ x ∧ x < 256
theorem At.size {S : ByteArray} {p : Nat} {L : List Int} (h : At S p L) : p + L.length ≤ S.size := by
  obtain ⟨A, C, e, ha, hb⟩ := h
  rw [e, strOfNums_size, List.length_append, List.length_append]
  omega
theorem app_empty (s : ByteArray) : s ++ ByteArray.empty = s := by
  apply ByteArray.ext; rw [ByteArray.data_append]; exact Array.append_empty
theorem At.num {S : ByteArray} {p i : Nat} {v : Int} (h : At S p (le i v)) (h0 : 0 ≤ v) (h1 : v < 256 ^ i) : rdv S p i = v := by
  obtain ⟨A, C, e, ha, hb⟩ := h
  rw [e, ← ha]
  have := rdv_front ByteArray.empty i A C v hb h0 h1
  rwa [app_empty] at this
theorem At.one {S : ByteArray} {p : Nat} {v : Int} (h : At S p (le 1 v)) (h0 : 0 ≤ v ∧ v < 256) : rdv S p 1 = v := h.num h0.1 (by have := h0.2; omega)
theorem At.u64 {S : ByteArray} {p : Nat} {v : Int} (h : At S p (le 8 v)) (h0 : 0 ≤ v ∧ v < 18446744073709551616) : rdv S p 8 = v := h.num h0.1 (by have := h0.2; omega)
theorem bytesOf_len (s : ByteArray) : (bytesOf s).length = s.size := by
  unfold bytesOf
  rw [List.length_map]
  exact data_length s
end Go.Proofs.Ytondgoabnmgcaaa.B
end
section
/- By hand: the reference's Encode (printed by enc19.py). -/
namespace Go.Proofs.Ytondgoabnmgcaaa.B
open Go.RowKit Go.Proofs.YtondgoabnmgcaaaW.PrintWords Go.Proofs.YtondgoabnmgcaaaW.PrintLast Go.Proofs.YtondgoabnmgcaaaW.PrintMore
open List renaming setIfInBounds_toArray → zA, set_cons_zero → zB, set_cons_succ → zC
open Bool renaming true → tt, false → ff
open Go.Proofs.YtondgoabnmgcaaaO.R (le le_length rbits)
set_option linter.unusedSimpArgs false
set_option linter.unusedVariables false
def renc3_T : Bool × List (List Nat × List Nat) := (true, [([], []), ([0], [0]), ([1], [1]), ([2], [2]), ([], []), ([4], [4]), ([5], [5]), ([6, 3], [6]), ([3, 7], [3, 7]), ([], []), ([9], [9]), ([10], [10]), ([11, 7], [11]), ([8, 12], [8, 12]), ([], []), ([14], [14]), ([15, 12], [15]), ([13, 16], [13, 16]), ([], []), ([18], [18]), ([19], [19]), ([20, 16], [20]), ([17, 21], [17, 21]), ([], []), ([23], [23]), ([24], [24]), ([25], [25]), ([26, 21], [26]), ([22, 27], [22, 27]), ([28, 27, 0, 1, 2, 3, 4, 5, 6, 7, 8, 9, 10, 11, 12, 13, 14, 15, 16, 17, 18, 19, 20, 21, 22, 23, 24, 25, 26, 27, 28], [28])])
def renc3_B : List Nat := [0, 1, 3, 7, 0, 16, 48, 127, 255, 0, 512, 1536, 3839, 8191, 0, 16384, 57087, 131071, 0, 262144, 786432, 1957631, 4194303, 0, 8388608, 25165824, 58720256, 129883903, 268435455, 536870911]
theorem renc3_tab : rtab .any (opsOf Try.f19 3) = renc3_T := by kernel_rfl
theorem renc3_bits : waitsOk renc3_T.2 renc3_B = true := by kernel_rfl
def renc7_T : Bool × List (List Nat × List Nat) := (true, [([], []), ([], []), ([1], [1]), ([], []), ([2, 3], [2, 3]), ([4], [4]), ([5], [5]), ([6], [6]), ([7], [7]), ([0, 8], [0, 8]), ([], []), ([10], [10]), ([], []), ([11, 12], [11, 12]), ([13], [13]), ([14], [14]), ([15, 8], [15]), ([9, 16], [9, 16]), ([], []), ([18], [18]), ([], []), ([19, 20], [19, 20]), ([21], [21]), ([22], [22]), ([23], [23]), ([24, 16], [24]), ([17, 25], [17, 25]), ([26, 25, 0, 1, 2, 3, 4, 5, 6, 7, 8, 9, 10, 11, 12, 13, 14, 15, 16, 17, 18, 19, 20, 21, 22, 23, 24, 25, 26], [0, 26])])
def renc7_B : List Nat := [0, 0, 2, 0, 14, 30, 62, 126, 254, 511, 0, 1024, 0, 7168, 15360, 31744, 65022, 131071, 0, 262144, 0, 1835008, 3932160, 8126464, 16515072, 33422846, 67108863, 134217727]
theorem renc7_tab : rtab .any (opsOf Try.f19 7) = renc7_T := by kernel_rfl
theorem renc7_bits : waitsOk renc7_T.2 renc7_B = true := by kernel_rfl
def renc8_T : Bool × List (List Nat × List Nat) := (true, [([], []), ([], []), ([1], [1]), ([2], [2]), ([3], [3]), ([0, 4], [0, 4]), ([], []), ([6], [6]), ([7], [7]), ([8, 4], [8]), ([5, 9], [5, 9]), ([], []), ([11], [11]), ([12, 9], [12]), ([10, 13], [10, 13]), ([], []), ([15], [15]), ([16, 13], [16]), ([14, 17], [14, 17]), ([], []), ([19], [19]), ([20], [20]), ([21, 17], [21]), ([18, 22], [18, 22]), ([], []), ([24], [24]), ([25], [25]), ([26, 22], [26]), ([23, 27], [23, 27]), ([], []), ([29], [29]), ([30, 27], [30]), ([28, 31], [28, 31]), ([], []), ([33], [33]), ([34], [34]), ([35], [35]), ([36, 31], [36]), ([32, 37], [32, 37]), ([38, 37, 0, 1, 2, 3, 4, 5, 6, 7, 8, 9, 10, 11, 12, 13, 14, 15, 16, 17, 18, 19, 20, 21, 22, 23, 24, 25, 26, 27, 28, 29, 30, 31, 32, 33, 34, 35, 36, 37, 38], [0, 38])])
def renc8_B : List Nat := [0, 0, 2, 6, 14, 31, 0, 64, 192, 478, 1023, 0, 2048, 7134, 16383, 0, 32768, 113630, 262143, 0, 524288, 1572864, 3914718, 8388607, 0, 16777216, 50331648, 125549534, 268435455, 0, 536870912, 1870379998, 4294967295, 0, 8589934592, 25769803776, 60129542144, 132866882526, 274877906943, 549755813887]
theorem renc8_tab : rtab .any (opsOf Try.f19 8) = renc8_T := by kernel_rfl
theorem renc8_bits : waitsOk renc8_T.2 renc8_B = true := by kernel_rfl
def renc13_T : Bool × List (List Nat × List Nat) := (true, [([], []), ([], []), ([1], [1]), ([], []), ([2, 3], [2, 3]), ([4], [4]), ([5], [5]), ([6], [6]), ([0, 7], [0, 7]), ([], []), ([9], [9]), ([], []), ([10, 11], [10, 11]), ([12], [12]), ([13], [13]), ([14], [14]), ([15], [15]), ([16, 7], [16]), ([8, 17], [8, 17]), ([], []), ([19], [19]), ([], []), ([20, 21], [20, 21]), ([22], [22]), ([23], [23]), ([24], [24]), ([25, 17], [25]), ([18, 26], [18, 26]), ([], []), ([27, 28], [27, 28]), ([29, 26, 0, 1, 2, 3, 4, 5, 6, 7, 8, 9, 10, 11, 12, 13, 14, 15, 16, 17, 18, 19, 20, 21, 22, 23, 24, 25, 26, 27, 28, 29], [0, 29])])
def renc13_B : List Nat := [0, 0, 2, 0, 14, 30, 62, 126, 255, 0, 512, 0, 3584, 7680, 15872, 32256, 65024, 130814, 262143, 0, 524288, 0, 3670016, 7864320, 16252928, 33030144, 66846462, 134217727, 0, 536870911, 1073741823]
theorem renc13_tab : rtab .any (opsOf Try.f19 13) = renc13_T := by kernel_rfl
theorem renc13_bits : waitsOk renc13_T.2 renc13_B = true := by kernel_rfl
def renc18_T : Bool × List (List Nat × List Nat) := (true, [([], []), ([], []), ([1], [1]), ([], []), ([2, 3], [2, 3]), ([4], [4]), ([5], [5]), ([6], [6]), ([0, 7], [0, 7]), ([], []), ([9], [9]), ([], []), ([10, 11], [10, 11]), ([12], [12]), ([13], [13]), ([14, 7], [14]), ([8, 15], [8, 15]), ([16, 15, 0, 1, 2, 3, 4, 5, 6, 7, 8, 9, 10, 11, 12, 13, 14, 15, 16], [0, 16])])
def renc18_B : List Nat := [0, 0, 2, 0, 14, 30, 62, 126, 255, 0, 512, 0, 3584, 7680, 15872, 32510, 65535, 131071]
theorem renc18_tab : rtab .any (opsOf Try.f19 18) = renc18_T := by kernel_rfl
theorem renc18_bits : waitsOk renc18_T.2 renc18_B = true := by kernel_rfl
theorem rd77q (l : List S77) (j : Nat) (h : j < l.length) : rd_T77 l (j : Int) = l[j] := by
 unfold rd_T77
 rw [Int.toNat_natCast, List.getD_eq_getElem?_getD, List.getElem?_eq_getElem h]
 rfl
theorem blk_d {w w' : World} {a : Addr} {v : Value} (hb : Below w.heap.size w w') (h : w.cell? a = some v) : w'.drew.cell? a = w.cell? a := (hb.cell (World.block_lt_of_cell? _ _ h))
def encQ (q : S90) : List Int := encP (from90 q)
theorem txt_str (s : ByteArray) : strOfNums (le 2 s.size) ++ s = strOfNums (le 2 s.size ++ bytesOf s) := by
 rw [← str_app]
 congr 1
 apply ByteArray.ext
 apply Array.toList_inj.1
 rw [strOfNums_data]
 unfold bytesOf
 rw [List.map_map]
 conv => lhs; rw [← List.map_id s.data.toList]
 apply List.map_congr_left
 intro b _
 simp
theorem len_encQ : ∀ (l : List S90), (∀ q ∈ l, q.f1.f2.size ≤ 64) → (l.flatMap encQ).length ≤ 83 * l.length
 | [], _ => by simp
 | q :: l, h => by
  have h1 := h q (List.mem_cons_self)
  have h2 := len_encQ l (fun x hx => h x (List.mem_cons_of_mem _ hx))
  rw [List.flatMap_cons, List.length_append, List.length_cons]
  have : (encQ q).length = 19 + q.f1.f2.size := by
   unfold encQ encP from90
   simp only [List.length_append, le_length, bytesOf_len]
   omega
  omega
theorem u64w (n : Int) (h : 0 ≤ n ∧ n < 18446744073709551616) : IntKind.u64.wrap n = n := by
 show n % 18446744073709551616 = n
 omega
set_option maxRecDepth 100000 in
set_option maxHeartbeats 16000000 in
theorem renc_ok (a0 a1 a2 a3 a4 : Int) (A5 : Option Addr) (c5 : Nat) (l5 : List S70) (a6 a7 a8 a9 a10 a11 a12 : Int) (A13 : Option Addr) (c13 : Nat) (l13 : List S90) (A14 : Option Addr) (c14 : Nat) (l14 : List S77) (a15 : Nat) (w : World) (hr5 : Kd.C k70 w A5 l5.length l5) (hc5 : l5.length ≤ c5) (hr13 : Kd.C k90 w A13 l13.length l13) (hc13 : l13.length ≤ c13) (hr14 : Kd.C k77 w A14 l14.length l14) (hc14 : l14.length ≤ c14)
  (KM : Nat) (hm : conventicleref15_May.f KM a0 a1 a2 a3 a4 l5 a6 a7 a8 a9 a10 a11 a12 l13 l14 a15 = some true)
  (ha0 : 0 ≤ a0 ∧ a0 < 256) (ha1 : 0 ≤ a1 ∧ a1 < 256) (ha2 : 0 ≤ a2 ∧ a2 < 256) (ha3 : 0 ≤ a3 ∧ a3 < 18446744073709551616) (ha4 : 0 ≤ a4 ∧ a4 < 256) (ha6 : 0 ≤ a6 ∧ a6 < 18446744073709551616) (ha7 : 0 ≤ a7 ∧ a7 < 18446744073709551616) (ha8 : 0 ≤ a8 ∧ a8 < 18446744073709551616) (ha9 : 0 ≤ a9 ∧ a9 < 18446744073709551616) (ha10 : 0 ≤ a10 ∧ a10 < 18446744073709551616) (ha11 : 0 ≤ a11 ∧ a11 < 18446744073709551616) (ha12 : 0 ≤ a12 ∧ a12 < 18446744073709551616) (hl5 : l5.length ≤ 8) (hl13 : l13.length ≤ 6) (hl14 : l14.length ≤ 16) (hu13 : ∀ q ∈ l13, (0 ≤ q.f0 ∧ q.f0 < 18446744073709551616) ∧ (0 ≤ q.f1.f0 ∧ q.f1.f0 < 256) ∧ (0 ≤ q.f1.f1 ∧ q.f1.f1 < 18446744073709551616) ∧ q.f1.f2.size ≤ 64) (hu5 : ∀ u ∈ l5, (0 ≤ u.f0 ∧ u.f0 < 256) ∧ (0 ≤ u.f1 ∧ u.f1 < 18446744073709551616) ∧ (0 ≤ u.f2 ∧ u.f2 < 256)) (hu14 : ∀ x ∈ l14, (0 ≤ x.f0 ∧ x.f0 < 18446744073709551616) ∧ (0 ≤ x.f1 ∧ x.f1 < 18446744073709551616)) (h15 : a15 < 18446744073709551616) (RR : ByteArray) (KS : Nat) (hseal : conventicleref02_Seal.f KS (strOfNums (encL a0 a1 a2 a3 a4 l5 a6 a7 a8 a9 a10 a11 a12 (l13.map from90) l14 a15)) = some RR) :
  Calls Try.prog 19 #[.agg #[.int .i64 a0, .int .i64 a1, .int .i64 a2, .int .u64 a3, .int .i64 a4, .slice A5 l5.length c5, .int .u64 a6, .int .u64 a7, .int .u64 a8, .int .u64 a9, .int .u64 a10, .int .u64 a11, .int .u64 a12, .slice A13 l13.length c13, .slice A14 l14.length c14, .float .f64 a15]] w fun e w' => e = .returned (.tuple #[.string RR, .int .i64 0]) ∧ Below w.heap.size w w' := by
 have H5 := Aside0.mk hr5
 have H13 := Aside0.mk hr13
 have H14 := Aside0.mk hr14
 have HC5 := Aside0.mk hc5
 have HC13 := Aside0.mk hc13
 have HC14 := Aside0.mk hc14
 have HM := Aside0.mk hm
 have si38 := si38
 have Ha0 := Aside0.mk ha0
 have Ha0w := Aside0.mk (u64w a0 (by omega))
 have Ha1 := Aside0.mk ha1
 have Ha1w := Aside0.mk (u64w a1 (by omega))
 have Ha2 := Aside0.mk ha2
 have Ha2w := Aside0.mk (u64w a2 (by omega))
 have Ha3 := Aside0.mk ha3
 have Ha3w := Aside0.mk (u64w a3 (by omega))
 have Ha4 := Aside0.mk ha4
 have Ha4w := Aside0.mk (u64w a4 (by omega))
 have Ha6 := Aside0.mk ha6
 have Ha7 := Aside0.mk ha7
 have Ha8 := Aside0.mk ha8
 have Ha9 := Aside0.mk ha9
 have Ha10 := Aside0.mk ha10
 have Ha11 := Aside0.mk ha11
 have Ha12 := Aside0.mk ha12
 have Hl5 : Aside0 (0 ≤ (l5.length : Int) ∧ (l5.length : Int) < 256) := ⟨by omega⟩
 have Hl5w := Aside0.mk (u64w (l5.length : Int) (by omega))
 have Hl13 : Aside0 (0 ≤ (l13.length : Int) ∧ (l13.length : Int) < 256) := ⟨by omega⟩
 have Hl13w := Aside0.mk (u64w (l13.length : Int) (by omega))
 have Hl14 : Aside0 (0 ≤ (l14.length : Int) ∧ (l14.length : Int) < 256) := ⟨by omega⟩
 have Hl14w := Aside0.mk (u64w (l14.length : Int) (by omega))
 clear hr5 hr13 hr14 hc5 hc13 hc14 hm ha0 ha1 ha2 ha3 ha4 ha6 ha7 ha8 ha9 ha10 ha11 ha12
 go_enter Try.func19, Try.ntmps19
 go_upto_region 3 with (first
  | ((with_reducible refine gate_dst (N := 1) rfl ?_); refine box_event ?hg (N := 1) ?hd (cs := #[.int .i64 a0, .int .i64 a1, .int .i64 a2, .int .u64 a3, .int .i64 a4, .slice A5 l5.length c5, .int .u64 a6, .int .u64 a7, .int .u64 a8, .int .u64 a9, .int .u64 a10, .int .u64 a11, .int .u64 a12, .slice A13 l13.length c13, .slice A14 l14.length c14, .float .f64 a15]) (t := 38) ?hr ?_; (case hd => rfl); (case hg => rfl); (case hr => first | (go_simp; done) | (go_simp; rfl)); intro g1 hg_ w1 hb_ hB_; have K1a := Aside0.mk hb_; have B1a := Aside0.mk hB_; clear hg_ hb_ hB_)
  | (refine wpList_load_row rfl 38 (.tmp 1) rfl g1 rfl 38 #[.int .i64 a0, .int .i64 a1, .int .i64 a2, .int .u64 a3, .int .i64 a4, .slice A5 l5.length c5, .int .u64 a6, .int .u64 a7, .int .u64 a8, .int .u64 a9, .int .u64 a10, .int .u64 a11, .int .u64 a12, .slice A13 l13.length c13, .slice A14 l14.length c14, .float .f64 a15] (0, 0) _ K1a.out Try.underlying38 rfl si38 ?_)
  | (go_at_call 20; refine (conventicleref15_May.calls KM a0 a1 a2 a3 a4 A5 c5 l5 a6 a7 a8 a9 a10 a11 a12 A13 c13 l13 A14 c14 l14 a15 true _ (Kd.C_below H5.out B1a.out) HC5.out (Kd.C_below H13.out B1a.out) HC13.out (Kd.C_below H14.out B1a.out) HC14.out HM.out).mono ?_; rintro e w1 ⟨rfl, hb⟩; have K1 := Aside0.mk (blk_below K1a.out hb); have B1 := Aside0.mk (below_step B1a.out hb); clear hb K1a B1a))
 refine start_ (n := 30) (S := fun w' => Below w1.drew.heap.size w1.drew w') (ds := []) #[ff,ff,ff,ff,ff,ff,ff,ff,ff,ff,ff,ff,ff,ff,ff,ff,ff,ff,ff,ff,ff,ff,ff,ff,ff,ff,ff,ff,ff,ff] (by kernel_rfl) rfl rfl (Below.refl _ _) (fun hHeld => ?_)
 have K1d := Aside0.mk (blk_drew K1.out)
 have BD := Aside0.mk (below_drew1 B1.out)
 generalize w1.drew = wd at K1d BD hHeld ⊢
 refine with_tabW renc3_tab renc3_bits (fun HT_ HW_ => ?_)
 refine pure_ (i := 0) (N := some 13) (v := .pointer (some ⟨g1, 0, none⟩)) (a' := ?_) #[tt,ff,ff,ff,ff,ff,ff,ff,ff,ff,ff,ff,ff,ff,ff,ff,ff,ff,ff,ff,ff,ff,ff,ff,ff,ff,ff,ff,ff,ff] rfl rfl (any_of HT_.out (by kernel_rfl)) (fun _ _ _ h => h) (Or.inl ⟨by rfl, ?_⟩) ?_ ?_
 ·(intro w'; go_simp; first | done | with_reducible rfl | rfl)
 rotate_left
 ·(simp only [Act.put,zA,zB,zC,i64_w,i32_w]; rfl)
 refine pure_ (i := 4) (N := some 17) (v := .pointer (some ⟨g1, 1, none⟩)) (a' := ?_) #[tt,ff,ff,ff,tt,ff,ff,ff,ff,ff,ff,ff,ff,ff,ff,ff,ff,ff,ff,ff,ff,ff,ff,ff,ff,ff,ff,ff,ff,ff] rfl rfl (any_of HT_.out (by kernel_rfl)) (fun _ _ _ h => h) (Or.inl ⟨by rfl, ?_⟩) ?_ ?_
 ·(intro w'; go_simp; first | done | with_reducible rfl | rfl)
 rotate_left
 ·(simp only [Act.put,zA,zB,zC,i64_w,i32_w]; rfl)
 refine pure_ (i := 9) (N := some 22) (v := .pointer (some ⟨g1, 2, none⟩)) (a' := ?_) #[tt,ff,ff,ff,tt,ff,ff,ff,ff,tt,ff,ff,ff,ff,ff,ff,ff,ff,ff,ff,ff,ff,ff,ff,ff,ff,ff,ff,ff,ff] rfl rfl (any_of HT_.out (by kernel_rfl)) (fun _ _ _ h => h) (Or.inl ⟨by rfl, ?_⟩) ?_ ?_
 ·(intro w'; go_simp; first | done | with_reducible rfl | rfl)
 rotate_left
 ·(simp only [Act.put,zA,zB,zC,i64_w,i32_w]; rfl)
 refine pure_ (i := 14) (N := some 27) (v := .pointer (some ⟨g1, 3, none⟩)) (a' := ?_) #[tt,ff,ff,ff,tt,ff,ff,ff,ff,tt,ff,ff,ff,ff,tt,ff,ff,ff,ff,ff,ff,ff,ff,ff,ff,ff,ff,ff,ff,ff] rfl rfl (any_of HT_.out (by kernel_rfl)) (fun _ _ _ h => h) (Or.inl ⟨by rfl, ?_⟩) ?_ ?_
 ·(intro w'; go_simp; first | done | with_reducible rfl | rfl)
 rotate_left
 ·(simp only [Act.put,zA,zB,zC,i64_w,i32_w]; rfl)
 refine pure_ (i := 18) (N := some 31) (v := .pointer (some ⟨g1, 4, none⟩)) (a' := ?_) #[tt,ff,ff,ff,tt,ff,ff,ff,ff,tt,ff,ff,ff,ff,tt,ff,ff,ff,tt,ff,ff,ff,ff,ff,ff,ff,ff,ff,ff,ff] rfl rfl (any_of HT_.out (by kernel_rfl)) (fun _ _ _ h => h) (Or.inl ⟨by rfl, ?_⟩) ?_ ?_
 ·(intro w'; go_simp; first | done | with_reducible rfl | rfl)
 rotate_left
 ·(simp only [Act.put,zA,zB,zC,i64_w,i32_w]; rfl)
 refine pure_ (i := 23) (N := some 36) (v := .pointer (some ⟨g1, 5, none⟩)) (a' := ?_) #[tt,ff,ff,ff,tt,ff,ff,ff,ff,tt,ff,ff,ff,ff,tt,ff,ff,ff,tt,ff,ff,ff,ff,tt,ff,ff,ff,ff,ff,ff] rfl rfl (any_of HT_.out (by kernel_rfl)) (fun _ _ _ h => h) (Or.inl ⟨by rfl, ?_⟩) ?_ ?_
 ·(intro w'; go_simp; first | done | with_reducible rfl | rfl)
 rotate_left
 ·(simp only [Act.put,zA,zB,zC,i64_w,i32_w]; rfl)
 refine take_ (i := 1) (N := some 14) (v := .int .i64 a0) (a' := ?_) #[tt,tt,ff,ff,tt,ff,ff,ff,ff,tt,ff,ff,ff,ff,tt,ff,ff,ff,tt,ff,ff,ff,ff,tt,ff,ff,ff,ff,ff,ff] rfl rfl (take_ofW HT_.out HW_.out (by kernel_rfl)) (fun _ _ _ h => h) (Or.inl ⟨by rfl, ?_⟩) hHeld ?_ ?_
 ·(intro w' s0; have xq := (blk_cell (blk_below K1d.out s0) 0).trans rfl; go_simp; first | done | with_reducible rfl | rfl)
 rotate_left
 ·(simp only [Act.put,zA,zB,zC,i64_w,i32_w]; rfl)
 refine pure_ (i := 2) (N := some 15) (v := .int .u64 a0) (a' := ?_) #[tt,tt,tt,ff,tt,ff,ff,ff,ff,tt,ff,ff,ff,ff,tt,ff,ff,ff,tt,ff,ff,ff,ff,tt,ff,ff,ff,ff,ff,ff] rfl rfl (any_of HT_.out (by kernel_rfl)) (fun _ _ _ h => h) (Or.inl ⟨by rfl, ?_⟩) ?_ ?_
 ·(intro w'; go_simp; first | done | rfl | simp [Ha0w.out])
 rotate_left
 ·(simp only [Act.put,zA,zB,zC,i64_w,i32_w]; rfl)
 refine take_ (i := 5) (N := some 18) (v := .int .i64 a1) (a' := ?_) #[tt,tt,tt,ff,tt,tt,ff,ff,ff,tt,ff,ff,ff,ff,tt,ff,ff,ff,tt,ff,ff,ff,ff,tt,ff,ff,ff,ff,ff,ff] rfl rfl (take_ofW HT_.out HW_.out (by kernel_rfl)) (fun _ _ _ h => h) (Or.inl ⟨by rfl, ?_⟩) hHeld ?_ ?_
 ·(intro w' s0; have xq := (blk_cell (blk_below K1d.out s0) 1).trans rfl; go_simp; first | done | with_reducible rfl | rfl)
 rotate_left
 ·(simp only [Act.put,zA,zB,zC,i64_w,i32_w]; rfl)
 refine pure_ (i := 6) (N := some 19) (v := .int .u64 a1) (a' := ?_) #[tt,tt,tt,ff,tt,tt,tt,ff,ff,tt,ff,ff,ff,ff,tt,ff,ff,ff,tt,ff,ff,ff,ff,tt,ff,ff,ff,ff,ff,ff] rfl rfl (any_of HT_.out (by kernel_rfl)) (fun _ _ _ h => h) (Or.inl ⟨by rfl, ?_⟩) ?_ ?_
 ·(intro w'; go_simp; first | done | rfl | simp [Ha1w.out])
 rotate_left
 ·(simp only [Act.put,zA,zB,zC,i64_w,i32_w]; rfl)
 refine take_ (i := 10) (N := some 23) (v := .int .i64 a2) (a' := ?_) #[tt,tt,tt,ff,tt,tt,tt,ff,ff,tt,tt,ff,ff,ff,tt,ff,ff,ff,tt,ff,ff,ff,ff,tt,ff,ff,ff,ff,ff,ff] rfl rfl (take_ofW HT_.out HW_.out (by kernel_rfl)) (fun _ _ _ h => h) (Or.inl ⟨by rfl, ?_⟩) hHeld ?_ ?_
 ·(intro w' s0; have xq := (blk_cell (blk_below K1d.out s0) 2).trans rfl; go_simp; first | done | with_reducible rfl | rfl)
 rotate_left
 ·(simp only [Act.put,zA,zB,zC,i64_w,i32_w]; rfl)
 refine pure_ (i := 11) (N := some 24) (v := .int .u64 a2) (a' := ?_) #[tt,tt,tt,ff,tt,tt,tt,ff,ff,tt,tt,tt,ff,ff,tt,ff,ff,ff,tt,ff,ff,ff,ff,tt,ff,ff,ff,ff,ff,ff] rfl rfl (any_of HT_.out (by kernel_rfl)) (fun _ _ _ h => h) (Or.inl ⟨by rfl, ?_⟩) ?_ ?_
 ·(intro w'; go_simp; first | done | rfl | simp [Ha2w.out])
 rotate_left
 ·(simp only [Act.put,zA,zB,zC,i64_w,i32_w]; rfl)
 refine take_ (i := 15) (N := some 28) (v := .int .u64 a3) (a' := ?_) #[tt,tt,tt,ff,tt,tt,tt,ff,ff,tt,tt,tt,ff,ff,tt,tt,ff,ff,tt,ff,ff,ff,ff,tt,ff,ff,ff,ff,ff,ff] rfl rfl (take_ofW HT_.out HW_.out (by kernel_rfl)) (fun _ _ _ h => h) (Or.inl ⟨by rfl, ?_⟩) hHeld ?_ ?_
 ·(intro w' s0; have xq := (blk_cell (blk_below K1d.out s0) 3).trans rfl; go_simp; first | done | with_reducible rfl | rfl)
 rotate_left
 ·(simp only [Act.put,zA,zB,zC,i64_w,i32_w]; rfl)
 refine take_ (i := 19) (N := some 32) (v := .int .i64 a4) (a' := ?_) #[tt,tt,tt,ff,tt,tt,tt,ff,ff,tt,tt,tt,ff,ff,tt,tt,ff,ff,tt,tt,ff,ff,ff,tt,ff,ff,ff,ff,ff,ff] rfl rfl (take_ofW HT_.out HW_.out (by kernel_rfl)) (fun _ _ _ h => h) (Or.inl ⟨by rfl, ?_⟩) hHeld ?_ ?_
 ·(intro w' s0; have xq := (blk_cell (blk_below K1d.out s0) 4).trans rfl; go_simp; first | done | with_reducible rfl | rfl)
 rotate_left
 ·(simp only [Act.put,zA,zB,zC,i64_w,i32_w]; rfl)
 refine pure_ (i := 20) (N := some 33) (v := .int .u64 a4) (a' := ?_) #[tt,tt,tt,ff,tt,tt,tt,ff,ff,tt,tt,tt,ff,ff,tt,tt,ff,ff,tt,tt,tt,ff,ff,tt,ff,ff,ff,ff,ff,ff] rfl rfl (any_of HT_.out (by kernel_rfl)) (fun _ _ _ h => h) (Or.inl ⟨by rfl, ?_⟩) ?_ ?_
 ·(intro w'; go_simp; first | done | rfl | simp [Ha4w.out])
 rotate_left
 ·(simp only [Act.put,zA,zB,zC,i64_w,i32_w]; rfl)
 refine take_ (i := 24) (N := some 37) (v := .slice A5 l5.length c5) (a' := ?_) #[tt,tt,tt,ff,tt,tt,tt,ff,ff,tt,tt,tt,ff,ff,tt,tt,ff,ff,tt,tt,tt,ff,ff,tt,tt,ff,ff,ff,ff,ff] rfl rfl (take_ofW HT_.out HW_.out (by kernel_rfl)) (fun _ _ _ h => h) (Or.inl ⟨by rfl, ?_⟩) hHeld ?_ ?_
 ·(intro w' s0; have xq := (blk_cell (blk_below K1d.out s0) 5).trans rfl; go_simp; first | done | with_reducible rfl | rfl)
 rotate_left
 ·(simp only [Act.put,zA,zB,zC,i64_w,i32_w]; rfl)
 refine pure_ (i := 25) (N := some 38) (v := .int .i64 (l5.length : Int)) (a' := ?_) #[tt,tt,tt,ff,tt,tt,tt,ff,ff,tt,tt,tt,ff,ff,tt,tt,ff,ff,tt,tt,tt,ff,ff,tt,tt,tt,ff,ff,ff,ff] rfl rfl (any_of HT_.out (by kernel_rfl)) (fun _ _ _ h => h) (Or.inl ⟨by rfl, ?_⟩) ?_ ?_
 ·(intro w'; go_simp; first | done | with_reducible rfl | rfl)
 rotate_left
 ·(simp only [Act.put,zA,zB,zC,i64_w,i32_w]; rfl)
 refine pure_ (i := 26) (N := some 39) (v := .int .u64 (l5.length : Int)) (a' := ?_) #[tt,tt,tt,ff,tt,tt,tt,ff,ff,tt,tt,tt,ff,ff,tt,tt,ff,ff,tt,tt,tt,ff,ff,tt,tt,tt,tt,ff,ff,ff] rfl rfl (any_of HT_.out (by kernel_rfl)) (fun _ _ _ h => h) (Or.inl ⟨by rfl, ?_⟩) ?_ ?_
 ·(intro w'; go_simp; first | done | rfl | simp [Hl5w.out])
 rotate_left
 ·(simp only [Act.put,zA,zB,zC,i64_w,i32_w]; rfl)
 refine one_ (i := 3) (N := some 16) #[tt,tt,tt,tt,tt,tt,tt,ff,ff,tt,tt,tt,ff,ff,tt,tt,ff,ff,tt,tt,tt,ff,ff,tt,tt,tt,tt,ff,ff,ff] rfl rfl (one_of HT_.out (by kernel_rfl)) (by decide) (fun K hK => ?_)
 refine goes_ Try.func63 (by kernel_rfl) rfl #[.int .u64 a0, .int .i64 1] (by rfl) rfl rfl (by (try simp only [List.map_toArray, List.map_cons, List.map_nil]); first | done | rfl) ?_
 refine (put1 a0 Ha0.out.1 Ha0.out.2 _).mono ?_
 rintro e w' ⟨rfl, hb⟩
 have hHe := below_step hHeld hb
 clear hHeld hb
 refine ⟨_, rfl, ?_⟩
 refine hK _ _ hHe (fun hHeld => ?_)
 clear hK K hHe
 refine norm_ (a' := ?_) ?_ ?_
 rotate_left
 ·(show Act.put _ (some 16) _ = _; simp only [Act.put,zA,zB,zC,i64_w,i32_w]; rfl)
 refine one_ (i := 7) (N := some 20) #[tt,tt,tt,tt,tt,tt,tt,tt,ff,tt,tt,tt,ff,ff,tt,tt,ff,ff,tt,tt,tt,ff,ff,tt,tt,tt,tt,ff,ff,ff] rfl rfl (one_of HT_.out (by kernel_rfl)) (by decide) (fun K hK => ?_)
 refine goes_ Try.func63 (by kernel_rfl) rfl #[.int .u64 a1, .int .i64 1] (by rfl) rfl rfl (by (try simp only [List.map_toArray, List.map_cons, List.map_nil]); first | done | rfl) ?_
 refine (put1 a1 Ha1.out.1 Ha1.out.2 _).mono ?_
 rintro e w' ⟨rfl, hb⟩
 have hHe := below_step hHeld hb
 clear hHeld hb
 refine ⟨_, rfl, ?_⟩
 refine hK _ _ hHe (fun hHeld => ?_)
 clear hK K hHe
 refine norm_ (a' := ?_) ?_ ?_
 rotate_left
 ·(show Act.put _ (some 20) _ = _; simp only [Act.put,zA,zB,zC,i64_w,i32_w]; rfl)
 refine pure_ (i := 8) (N := some 21) (v := .string (strOfNums (le 1 a0 ++ le 1 a1))) (a' := ?_) #[tt,tt,tt,tt,tt,tt,tt,tt,tt,tt,tt,tt,ff,ff,tt,tt,ff,ff,tt,tt,tt,ff,ff,tt,tt,tt,tt,ff,ff,ff] rfl rfl (any_of HT_.out (by kernel_rfl)) (fun _ _ _ h => h) (Or.inl ⟨by rfl, ?_⟩) ?_ ?_
 ·(intro w'; exact cat_run rfl (by kernel_rfl) (by kernel_rfl) (by simp only [List.length_append, le_length]; omega))
 rotate_left
 ·(simp only [Act.put,zA,zB,zC,i64_w,i32_w]; rfl)
 refine one_ (i := 12) (N := some 25) #[tt,tt,tt,tt,tt,tt,tt,tt,tt,tt,tt,tt,tt,ff,tt,tt,ff,ff,tt,tt,tt,ff,ff,tt,tt,tt,tt,ff,ff,ff] rfl rfl (one_of HT_.out (by kernel_rfl)) (by decide) (fun K hK => ?_)
 refine goes_ Try.func63 (by kernel_rfl) rfl #[.int .u64 a2, .int .i64 1] (by rfl) rfl rfl (by (try simp only [List.map_toArray, List.map_cons, List.map_nil]); first | done | rfl) ?_
 refine (put1 a2 Ha2.out.1 Ha2.out.2 _).mono ?_
 rintro e w' ⟨rfl, hb⟩
 have hHe := below_step hHeld hb
 clear hHeld hb
 refine ⟨_, rfl, ?_⟩
 refine hK _ _ hHe (fun hHeld => ?_)
 clear hK K hHe
 refine norm_ (a' := ?_) ?_ ?_
 rotate_left
 ·(show Act.put _ (some 25) _ = _; simp only [Act.put,zA,zB,zC,i64_w,i32_w]; rfl)
 refine pure_ (i := 13) (N := some 26) (v := .string (strOfNums ((le 1 a0 ++ le 1 a1) ++ le 1 a2))) (a' := ?_) #[tt,tt,tt,tt,tt,tt,tt,tt,tt,tt,tt,tt,tt,tt,tt,tt,ff,ff,tt,tt,tt,ff,ff,tt,tt,tt,tt,ff,ff,ff] rfl rfl (any_of HT_.out (by kernel_rfl)) (fun _ _ _ h => h) (Or.inl ⟨by rfl, ?_⟩) ?_ ?_
 ·(intro w'; exact cat_run rfl (by kernel_rfl) (by kernel_rfl) (by simp only [List.length_append, le_length]; omega))
 rotate_left
 ·(simp only [Act.put,zA,zB,zC,i64_w,i32_w]; rfl)
 refine one_ (i := 16) (N := some 29) #[tt,tt,tt,tt,tt,tt,tt,tt,tt,tt,tt,tt,tt,tt,tt,tt,tt,ff,tt,tt,tt,ff,ff,tt,tt,tt,tt,ff,ff,ff] rfl rfl (one_of HT_.out (by kernel_rfl)) (by decide) (fun K hK => ?_)
 refine goes_ Try.func63 (by kernel_rfl) rfl #[.int .u64 a3, .int .i64 8] (by rfl) rfl rfl (by (try simp only [List.map_toArray, List.map_cons, List.map_nil]); first | done | rfl) ?_
 refine (put8 a3 Ha3.out.1 Ha3.out.2 _).mono ?_
 rintro e w' ⟨rfl, hb⟩
 have hHe := below_step hHeld hb
 clear hHeld hb
 refine ⟨_, rfl, ?_⟩
 refine hK _ _ hHe (fun hHeld => ?_)
 clear hK K hHe
 refine norm_ (a' := ?_) ?_ ?_
 rotate_left
 ·(show Act.put _ (some 29) _ = _; simp only [Act.put,zA,zB,zC,i64_w,i32_w]; rfl)
 refine pure_ (i := 17) (N := some 30) (v := .string (strOfNums (((le 1 a0 ++ le 1 a1) ++ le 1 a2) ++ le 8 a3))) (a' := ?_) #[tt,tt,tt,tt,tt,tt,tt,tt,tt,tt,tt,tt,tt,tt,tt,tt,tt,tt,tt,tt,tt,ff,ff,tt,tt,tt,tt,ff,ff,ff] rfl rfl (any_of HT_.out (by kernel_rfl)) (fun _ _ _ h => h) (Or.inl ⟨by rfl, ?_⟩) ?_ ?_
 ·(intro w'; exact cat_run rfl (by kernel_rfl) (by kernel_rfl) (by simp only [List.length_append, le_length]; omega))
 rotate_left
 ·(simp only [Act.put,zA,zB,zC,i64_w,i32_w]; rfl)
 refine one_ (i := 21) (N := some 34) #[tt,tt,tt,tt,tt,tt,tt,tt,tt,tt,tt,tt,tt,tt,tt,tt,tt,tt,tt,tt,tt,tt,ff,tt,tt,tt,tt,ff,ff,ff] rfl rfl (one_of HT_.out (by kernel_rfl)) (by decide) (fun K hK => ?_)
 refine goes_ Try.func63 (by kernel_rfl) rfl #[.int .u64 a4, .int .i64 1] (by rfl) rfl rfl (by (try simp only [List.map_toArray, List.map_cons, List.map_nil]); first | done | rfl) ?_
 refine (put1 a4 Ha4.out.1 Ha4.out.2 _).mono ?_
 rintro e w' ⟨rfl, hb⟩
 have hHe := below_step hHeld hb
 clear hHeld hb
 refine ⟨_, rfl, ?_⟩
 refine hK _ _ hHe (fun hHeld => ?_)
 clear hK K hHe
 refine norm_ (a' := ?_) ?_ ?_
 rotate_left
 ·(show Act.put _ (some 34) _ = _; simp only [Act.put,zA,zB,zC,i64_w,i32_w]; rfl)
 refine pure_ (i := 22) (N := some 35) (v := .string (strOfNums ((((le 1 a0 ++ le 1 a1) ++ le 1 a2) ++ le 8 a3) ++ le 1 a4))) (a' := ?_) #[tt,tt,tt,tt,tt,tt,tt,tt,tt,tt,tt,tt,tt,tt,tt,tt,tt,tt,tt,tt,tt,tt,tt,tt,tt,tt,tt,ff,ff,ff] rfl rfl (any_of HT_.out (by kernel_rfl)) (fun _ _ _ h => h) (Or.inl ⟨by rfl, ?_⟩) ?_ ?_
 ·(intro w'; exact cat_run rfl (by kernel_rfl) (by kernel_rfl) (by simp only [List.length_append, le_length]; omega))
 rotate_left
 ·(simp only [Act.put,zA,zB,zC,i64_w,i32_w]; rfl)
 refine one_ (i := 27) (N := some 40) #[tt,tt,tt,tt,tt,tt,tt,tt,tt,tt,tt,tt,tt,tt,tt,tt,tt,tt,tt,tt,tt,tt,tt,tt,tt,tt,tt,tt,ff,ff] rfl rfl (one_of HT_.out (by kernel_rfl)) (by decide) (fun K hK => ?_)
 refine goes_ Try.func63 (by kernel_rfl) rfl #[.int .u64 (l5.length : Int), .int .i64 1] (by rfl) rfl rfl (by (try simp only [List.map_toArray, List.map_cons, List.map_nil]); first | done | rfl) ?_
 refine (put1 (l5.length : Int) Hl5.out.1 Hl5.out.2 _).mono ?_
 rintro e w' ⟨rfl, hb⟩
 have hHe := below_step hHeld hb
 clear hHeld hb
 refine ⟨_, rfl, ?_⟩
 refine hK _ _ hHe (fun hHeld => ?_)
 clear hK K hHe
 refine norm_ (a' := ?_) ?_ ?_
 rotate_left
 ·(show Act.put _ (some 40) _ = _; simp only [Act.put,zA,zB,zC,i64_w,i32_w]; rfl)
 refine pure_ (i := 28) (N := some 41) (v := .string (strOfNums (((((le 1 a0 ++ le 1 a1) ++ le 1 a2) ++ le 8 a3) ++ le 1 a4) ++ le 1 (l5.length : Int)))) (a' := ?_) #[tt,tt,tt,tt,tt,tt,tt,tt,tt,tt,tt,tt,tt,tt,tt,tt,tt,tt,tt,tt,tt,tt,tt,tt,tt,tt,tt,tt,tt,ff] rfl rfl (any_of HT_.out (by kernel_rfl)) (fun _ _ _ h => h) (Or.inl ⟨by rfl, ?_⟩) ?_ ?_
 ·(intro w'; exact cat_run rfl (by kernel_rfl) (by kernel_rfl) (by simp only [List.length_append, le_length]; omega))
 rotate_left
 ·(simp only [Act.put,zA,zB,zC,i64_w,i32_w]; rfl)
 refine pure_ (i := 29) (N := some 4) (v := .string (strOfNums (((((le 1 a0 ++ le 1 a1) ++ le 1 a2) ++ le 8 a3) ++ le 1 a4) ++ le 1 (l5.length : Int)))) (a' := ?_) #[tt,tt,tt,tt,tt,tt,tt,tt,tt,tt,tt,tt,tt,tt,tt,tt,tt,tt,tt,tt,tt,tt,tt,tt,tt,tt,tt,tt,tt,tt] rfl rfl (any_of HT_.out (by kernel_rfl)) (fun _ _ _ h => h) (Or.inl ⟨by rfl, ?_⟩) ?_ ?_
 ·(intro w'; go_simp; first | done | with_reducible rfl | rfl)
 rotate_left
 ·(simp only [Act.put,zA,zB,zC,i64_w,i32_w]; rfl)
 refine done_ (done_of HT_.out (by kernel_rfl)) ?_
 have B3 := Aside0.mk (below_step BD.out hHeld)
 have K3 := Aside0.mk (blk_below K1d.out hHeld)
 have HV := Aside0.mk (show Below wd.heap.size wd _ from hHeld)
 obtain ⟨L1, hL1⟩ : ∃ L, L = (((((le 1 a0 ++ le 1 a1) ++ le 1 a2) ++ le 8 a3) ++ le 1 a4) ++ le 1 (l5.length : Int)) := ⟨_, rfl⟩
 rw [← hL1]
 have hn1 : L1.length = 13 := by rw [hL1]; simp only [List.length_append, le_length]
 have HL1 := Aside0.mk hL1
 have H5d := Aside0.mk (Kd.C_below H5.out BD.out)
 have H13d := Aside0.mk (Kd.C_below H13.out BD.out)
 have H14d := Aside0.mk (Kd.C_below H14.out BD.out)
 clear hL1 HT_ HW_ hHeld
 rename World => wz
 have hlen5 : (l5.length : Int) ≤ 9223372036854775807 := by omega
 go_wp2
 go_loopw [4, 5] (fun v i wr => ∃ j : Nat, v = .string (strOfNums (L1 ++ (l5.take j).flatMap encU)) ∧ i = .int .i64 j ∧ Aside0 (j ≤ l5.length) ∧ Aside0 (wr.heap[g1]? = some (.cells #[.int .i64 a0, .int .i64 a1, .int .i64 a2, .int .u64 a3, .int .i64 a4, .slice A5 l5.length c5, .int .u64 a6, .int .u64 a7, .int .u64 a8, .int .u64 a9, .int .u64 a10, .int .u64 a11, .int .u64 a12, .slice A13 l13.length c13, .slice A14 l14.length c14, .float .f64 a15] 38 (0, 0))) ∧ Aside0 (Below wd.heap.size wd wr) ∧ Aside0 (Below w.heap.size w wr))
  (fun _ i _ => l5.length - (intOf i).toNat)
 case atStart => exact ⟨0, by simp, rfl, ⟨Nat.zero_le _⟩, K3, HV, B3⟩
 case round =>
  obtain ⟨j, rfl, rfl, hj, KAr, HBd, HBw⟩ := hrel
  have xa := fun i => blk_cell KAr.out i
  by_cases hlt : j < l5.length
  ·obtain ⟨ad, e, hy0, hy1, hy2⟩ := at_T70 (Kd.C_below H5d.out HBd.out) (j : Int) (by omega) (by omega)
   simp only [Int.toNat_natCast] at hy0 hy1 hy2
   obtain rfl := e
   have HR := Aside0.mk (hu5 l5[j] (List.getElem_mem hlt))
   have HT : Aside0 ((l5.take (j + 1)).flatMap encU = (l5.take j).flatMap encU ++ encU (rd_T70 l5 (j : Int))) := ⟨by rw [rd70' l5 j hlt, List.take_succ_eq_append_getElem hlt, List.flatMap_append]; simp⟩
   rw [← rd70' l5 j hlt] at HR
   generalize rd_T70 l5 (j : Int) = p at hy0 hy1 hy2 HR HT
   obtain ⟨p0, p1, p2⟩ := p
   dsimp only at hy0 hy1 hy2 HR
   have Hp0 := Aside0.mk HR.out.1
   have Hp0w := Aside0.mk (u64w p0 (by have := HR.out.1; omega))
   have Hp1 := Aside0.mk HR.out.2.1
   have Hp2 := Aside0.mk HR.out.2.2
   have Hp2w := Aside0.mk (u64w p2 (by have := HR.out.2.2; omega))
   have E0 : Aside0 (wr.drew.cell? _ = _) := ⟨hy0⟩
   have E1 : Aside0 (wr.drew.cell? _ = _) := ⟨hy1⟩
   have E2 : Aside0 (wr.drew.cell? _ = _) := ⟨hy2⟩
   have hlti : (j : Int) < (l5.length : Int) := by omega
   have hLn : (L1 ++ (l5.take j).flatMap encU).length ≤ 200 := by rw [List.length_append, Go.Proofs.Ytondgoabnmgcaaa.Pure.len_encU, List.length_take, hn1]; omega
   obtain ⟨L, hL⟩ : ∃ L, L = L1 ++ (l5.take j).flatMap encU := ⟨_, rfl⟩
   rw [← hL] at hLn ⊢
   have HL := Aside0.mk hL
   clear hy0 hy1 hy2 hL
   go_upto_region 7 with (fail)
   refine start_ (n := 28) (S := fun w' => Below wr.drew.heap.size wr.drew w') (ds := []) #[ff,ff,ff,ff,ff,ff,ff,ff,ff,ff,ff,ff,ff,ff,ff,ff,ff,ff,ff,ff,ff,ff,ff,ff,ff,ff,ff,ff] (by kernel_rfl) rfl rfl (Below.refl _ _) (fun hHeld => ?_)
   have K1d := Aside0.mk (blk_drew KAr.out)
   have BD := Aside0.mk (below_drew1 HBw.out)
   have BV := Aside0.mk (below_drew1 HBd.out)
   generalize wr.drew = we at K1d BD BV E0 E1 E2 hHeld ⊢
   refine with_tabW renc7_tab renc7_bits (fun HT_ HW_ => ?_)
   refine pure_ (i := 0) (N := some 49) (v := .string (strOfNums L)) (a' := ?_) #[tt,ff,ff,ff,ff,ff,ff,ff,ff,ff,ff,ff,ff,ff,ff,ff,ff,ff,ff,ff,ff,ff,ff,ff,ff,ff,ff,ff] rfl rfl (any_of HT_.out (by kernel_rfl)) (fun _ _ _ h => h) (Or.inl ⟨by rfl, ?_⟩) ?_ ?_
   ·(intro w'; go_simp; first | done | with_reducible rfl | rfl)
   rotate_left
   ·(simp only [Act.put,zA,zB,zC,i64_w,i32_w]; rfl)
   refine pure_ (i := 1) (N := some 50) (v := .pointer (some ⟨g1, 5, none⟩)) (a' := ?_) #[tt,tt,ff,ff,ff,ff,ff,ff,ff,ff,ff,ff,ff,ff,ff,ff,ff,ff,ff,ff,ff,ff,ff,ff,ff,ff,ff,ff] rfl rfl (any_of HT_.out (by kernel_rfl)) (fun _ _ _ h => h) (Or.inl ⟨by rfl, ?_⟩) ?_ ?_
   ·(intro w'; go_simp; first | done | with_reducible rfl | rfl)
   rotate_left
   ·(simp only [Act.put,zA,zB,zC,i64_w,i32_w]; rfl)
   refine pure_ (i := 3) (N := some 52) (v := .int .i64 (j : Int)) (a' := ?_) #[tt,tt,ff,tt,ff,ff,ff,ff,ff,ff,ff,ff,ff,ff,ff,ff,ff,ff,ff,ff,ff,ff,ff,ff,ff,ff,ff,ff] rfl rfl (any_of HT_.out (by kernel_rfl)) (fun _ _ _ h => h) (Or.inl ⟨by rfl, ?_⟩) ?_ ?_
   ·(intro w'; go_simp; first | done | with_reducible rfl | rfl)
   rotate_left
   ·(simp only [Act.put,zA,zB,zC,i64_w,i32_w]; rfl)
   refine pure_ (i := 10) (N := some 59) (v := .pointer (some ⟨g1, 5, none⟩)) (a' := ?_) #[tt,tt,ff,tt,ff,ff,ff,ff,ff,ff,tt,ff,ff,ff,ff,ff,ff,ff,ff,ff,ff,ff,ff,ff,ff,ff,ff,ff] rfl rfl (any_of HT_.out (by kernel_rfl)) (fun _ _ _ h => h) (Or.inl ⟨by rfl, ?_⟩) ?_ ?_
   ·(intro w'; go_simp; first | done | with_reducible rfl | rfl)
   rotate_left
   ·(simp only [Act.put,zA,zB,zC,i64_w,i32_w]; rfl)
   refine pure_ (i := 12) (N := some 61) (v := .int .i64 (j : Int)) (a' := ?_) #[tt,tt,ff,tt,ff,ff,ff,ff,ff,ff,tt,ff,tt,ff,ff,ff,ff,ff,ff,ff,ff,ff,ff,ff,ff,ff,ff,ff] rfl rfl (any_of HT_.out (by kernel_rfl)) (fun _ _ _ h => h) (Or.inl ⟨by rfl, ?_⟩) ?_ ?_
   ·(intro w'; go_simp; first | done | with_reducible rfl | rfl)
   rotate_left
   ·(simp only [Act.put,zA,zB,zC,i64_w,i32_w]; rfl)
   refine pure_ (i := 18) (N := some 67) (v := .pointer (some ⟨g1, 5, none⟩)) (a' := ?_) #[tt,tt,ff,tt,ff,ff,ff,ff,ff,ff,tt,ff,tt,ff,ff,ff,ff,ff,tt,ff,ff,ff,ff,ff,ff,ff,ff,ff] rfl rfl (any_of HT_.out (by kernel_rfl)) (fun _ _ _ h => h) (Or.inl ⟨by rfl, ?_⟩) ?_ ?_
   ·(intro w'; go_simp; first | done | with_reducible rfl | rfl)
   rotate_left
   ·(simp only [Act.put,zA,zB,zC,i64_w,i32_w]; rfl)
   refine pure_ (i := 20) (N := some 69) (v := .int .i64 (j : Int)) (a' := ?_) #[tt,tt,ff,tt,ff,ff,ff,ff,ff,ff,tt,ff,tt,ff,ff,ff,ff,ff,tt,ff,tt,ff,ff,ff,ff,ff,ff,ff] rfl rfl (any_of HT_.out (by kernel_rfl)) (fun _ _ _ h => h) (Or.inl ⟨by rfl, ?_⟩) ?_ ?_
   ·(intro w'; go_simp; first | done | with_reducible rfl | rfl)
   rotate_left
   ·(simp only [Act.put,zA,zB,zC,i64_w,i32_w]; rfl)
   refine take_ (i := 2) (N := some 51) (v := .slice (some ad) l5.length c5) (a' := ?_) #[tt,tt,tt,tt,ff,ff,ff,ff,ff,ff,tt,ff,tt,ff,ff,ff,ff,ff,tt,ff,tt,ff,ff,ff,ff,ff,ff,ff] rfl rfl (take_ofW HT_.out HW_.out (by kernel_rfl)) (fun _ _ _ h => h) (Or.inl ⟨by rfl, ?_⟩) hHeld ?_ ?_
   ·(intro w' s0; have xq := (blk_cell (blk_below K1d.out s0) 5).trans rfl; go_simp; first | done | with_reducible rfl | rfl)
   rotate_left
   ·(simp only [Act.put,zA,zB,zC,i64_w,i32_w]; rfl)
   refine pure_ (i := 4) (N := some 53) (v:=?_) (a':=?_) #[tt,tt,tt,tt,tt,ff,ff,ff,ff,ff,tt,ff,tt,ff,ff,ff,ff,ff,tt,ff,tt,ff,ff,ff,ff,ff,ff,ff] rfl rfl (any_of HT_.out (by kernel_rfl)) (fun _ _ _ h => h) (Or.inl ⟨by rfl, ?_⟩) ?_ ?_
   rotate_left
   ·(intro w'; go_simp; first | done | with_reducible rfl | rfl)
   rotate_left
   ·(simp only [Act.put,zA,zB,zC,i64_w,i32_w]; rfl)
   refine pure_ (i := 5) (N := some 54) (v:=?_) (a':=?_) #[tt,tt,tt,tt,tt,tt,ff,ff,ff,ff,tt,ff,tt,ff,ff,ff,ff,ff,tt,ff,tt,ff,ff,ff,ff,ff,ff,ff] rfl rfl (any_of HT_.out (by kernel_rfl)) (fun _ _ _ h => h) (Or.inl ⟨by rfl, ?_⟩) ?_ ?_
   rotate_left
   ·(intro w'; go_simp; first | done | with_reducible rfl | rfl)
   rotate_left
   ·(simp only [Act.put,zA,zB,zC,i64_w,i32_w]; rfl)
   refine take_ (i := 6) (N := some 55) (v := .int .i64 p0) (a' := ?_) #[tt,tt,tt,tt,tt,tt,tt,ff,ff,ff,tt,ff,tt,ff,ff,ff,ff,ff,tt,ff,tt,ff,ff,ff,ff,ff,ff,ff] rfl rfl (take_ofW HT_.out HW_.out (by kernel_rfl)) (fun _ _ _ h => h) (Or.inl ⟨by rfl, ?_⟩) hHeld ?_ ?_
   ·(intro w' s0; have xq := (s0.cell (World.block_lt_of_cell? _ _ E0.out)).trans E0.out; go_simp; first | done | with_reducible rfl | rfl)
   rotate_left
   ·(simp only [Act.put,zA,zB,zC,i64_w,i32_w]; rfl)
   refine pure_ (i := 7) (N := some 56) (v := .int .u64 p0) (a' := ?_) #[tt,tt,tt,tt,tt,tt,tt,tt,ff,ff,tt,ff,tt,ff,ff,ff,ff,ff,tt,ff,tt,ff,ff,ff,ff,ff,ff,ff] rfl rfl (any_of HT_.out (by kernel_rfl)) (fun _ _ _ h => h) (Or.inl ⟨by rfl, ?_⟩) ?_ ?_
   ·(intro w'; go_simp; first | done | rfl | simp [Hp0w.out])
   rotate_left
   ·(simp only [Act.put,zA,zB,zC,i64_w,i32_w]; rfl)
   refine take_ (i := 11) (N := some 60) (v := .slice (some ad) l5.length c5) (a' := ?_) #[tt,tt,tt,tt,tt,tt,tt,tt,ff,ff,tt,tt,tt,ff,ff,ff,ff,ff,tt,ff,tt,ff,ff,ff,ff,ff,ff,ff] rfl rfl (take_ofW HT_.out HW_.out (by kernel_rfl)) (fun _ _ _ h => h) (Or.inl ⟨by rfl, ?_⟩) hHeld ?_ ?_
   ·(intro w' s0; have xq := (blk_cell (blk_below K1d.out s0) 5).trans rfl; go_simp; first | done | with_reducible rfl | rfl)
   rotate_left
   ·(simp only [Act.put,zA,zB,zC,i64_w,i32_w]; rfl)
   refine pure_ (i := 13) (N := some 62) (v:=?_) (a':=?_) #[tt,tt,tt,tt,tt,tt,tt,tt,ff,ff,tt,tt,tt,tt,ff,ff,ff,ff,tt,ff,tt,ff,ff,ff,ff,ff,ff,ff] rfl rfl (any_of HT_.out (by kernel_rfl)) (fun _ _ _ h => h) (Or.inl ⟨by rfl, ?_⟩) ?_ ?_
   rotate_left
   ·(intro w'; go_simp; first | done | with_reducible rfl | rfl)
   rotate_left
   ·(simp only [Act.put,zA,zB,zC,i64_w,i32_w]; rfl)
   refine pure_ (i := 14) (N := some 63) (v:=?_) (a':=?_) #[tt,tt,tt,tt,tt,tt,tt,tt,ff,ff,tt,tt,tt,tt,tt,ff,ff,ff,tt,ff,tt,ff,ff,ff,ff,ff,ff,ff] rfl rfl (any_of HT_.out (by kernel_rfl)) (fun _ _ _ h => h) (Or.inl ⟨by rfl, ?_⟩) ?_ ?_
   rotate_left
   ·(intro w'; go_simp; first | done | with_reducible rfl | rfl)
   rotate_left
   ·(simp only [Act.put,zA,zB,zC,i64_w,i32_w]; rfl)
   refine take_ (i := 15) (N := some 64) (v := .int .u64 p1) (a' := ?_) #[tt,tt,tt,tt,tt,tt,tt,tt,ff,ff,tt,tt,tt,tt,tt,tt,ff,ff,tt,ff,tt,ff,ff,ff,ff,ff,ff,ff] rfl rfl (take_ofW HT_.out HW_.out (by kernel_rfl)) (fun _ _ _ h => h) (Or.inl ⟨by rfl, ?_⟩) hHeld ?_ ?_
   ·(intro w' s0; have xq := (s0.cell (World.block_lt_of_cell? _ _ E1.out)).trans E1.out; go_simp; first | done | with_reducible rfl | rfl)
   rotate_left
   ·(simp only [Act.put,zA,zB,zC,i64_w,i32_w]; rfl)
   refine take_ (i := 19) (N := some 68) (v := .slice (some ad) l5.length c5) (a' := ?_) #[tt,tt,tt,tt,tt,tt,tt,tt,ff,ff,tt,tt,tt,tt,tt,tt,ff,ff,tt,tt,tt,ff,ff,ff,ff,ff,ff,ff] rfl rfl (take_ofW HT_.out HW_.out (by kernel_rfl)) (fun _ _ _ h => h) (Or.inl ⟨by rfl, ?_⟩) hHeld ?_ ?_
   ·(intro w' s0; have xq := (blk_cell (blk_below K1d.out s0) 5).trans rfl; go_simp; first | done | with_reducible rfl | rfl)
   rotate_left
   ·(simp only [Act.put,zA,zB,zC,i64_w,i32_w]; rfl)
   refine pure_ (i := 21) (N := some 70) (v:=?_) (a':=?_) #[tt,tt,tt,tt,tt,tt,tt,tt,ff,ff,tt,tt,tt,tt,tt,tt,ff,ff,tt,tt,tt,tt,ff,ff,ff,ff,ff,ff] rfl rfl (any_of HT_.out (by kernel_rfl)) (fun _ _ _ h => h) (Or.inl ⟨by rfl, ?_⟩) ?_ ?_
   rotate_left
   ·(intro w'; go_simp; first | done | with_reducible rfl | rfl)
   rotate_left
   ·(simp only [Act.put,zA,zB,zC,i64_w,i32_w]; rfl)
   refine pure_ (i := 22) (N := some 71) (v:=?_) (a':=?_) #[tt,tt,tt,tt,tt,tt,tt,tt,ff,ff,tt,tt,tt,tt,tt,tt,ff,ff,tt,tt,tt,tt,tt,ff,ff,ff,ff,ff] rfl rfl (any_of HT_.out (by kernel_rfl)) (fun _ _ _ h => h) (Or.inl ⟨by rfl, ?_⟩) ?_ ?_
   rotate_left
   ·(intro w'; go_simp; first | done | with_reducible rfl | rfl)
   rotate_left
   ·(simp only [Act.put,zA,zB,zC,i64_w,i32_w]; rfl)
   refine take_ (i := 23) (N := some 72) (v := .int .i64 p2) (a' := ?_) #[tt,tt,tt,tt,tt,tt,tt,tt,ff,ff,tt,tt,tt,tt,tt,tt,ff,ff,tt,tt,tt,tt,tt,tt,ff,ff,ff,ff] rfl rfl (take_ofW HT_.out HW_.out (by kernel_rfl)) (fun _ _ _ h => h) (Or.inl ⟨by rfl, ?_⟩) hHeld ?_ ?_
   ·(intro w' s0; have xq := (s0.cell (World.block_lt_of_cell? _ _ E2.out)).trans E2.out; go_simp; first | done | with_reducible rfl | rfl)
   rotate_left
   ·(simp only [Act.put,zA,zB,zC,i64_w,i32_w]; rfl)
   refine pure_ (i := 24) (N := some 73) (v := .int .u64 p2) (a' := ?_) #[tt,tt,tt,tt,tt,tt,tt,tt,ff,ff,tt,tt,tt,tt,tt,tt,ff,ff,tt,tt,tt,tt,tt,tt,tt,ff,ff,ff] rfl rfl (any_of HT_.out (by kernel_rfl)) (fun _ _ _ h => h) (Or.inl ⟨by rfl, ?_⟩) ?_ ?_
   ·(intro w'; go_simp; first | done | rfl | simp [Hp2w.out])
   rotate_left
   ·(simp only [Act.put,zA,zB,zC,i64_w,i32_w]; rfl)
   refine one_ (i := 8) (N := some 57) #[tt,tt,tt,tt,tt,tt,tt,tt,tt,ff,tt,tt,tt,tt,tt,tt,ff,ff,tt,tt,tt,tt,tt,tt,tt,ff,ff,ff] rfl rfl (one_of HT_.out (by kernel_rfl)) (by decide) (fun K hK => ?_)
   refine goes_ Try.func63 (by kernel_rfl) rfl #[.int .u64 p0, .int .i64 1] (by rfl) rfl rfl (by (try simp only [List.map_toArray, List.map_cons, List.map_nil]); first | done | rfl) ?_
   refine (put1 p0 Hp0.out.1 Hp0.out.2 _).mono ?_
   rintro e w' ⟨rfl, hb⟩
   have hHe := below_step hHeld hb
   clear hHeld hb
   refine ⟨_, rfl, ?_⟩
   refine hK _ _ hHe (fun hHeld => ?_)
   clear hK K hHe
   refine norm_ (a' := ?_) ?_ ?_
   rotate_left
   ·(show Act.put _ (some 57) _ = _; simp only [Act.put,zA,zB,zC,i64_w,i32_w]; rfl)
   refine pure_ (i := 9) (N := some 58) (v := .string (strOfNums (L ++ le 1 p0))) (a' := ?_) #[tt,tt,tt,tt,tt,tt,tt,tt,tt,tt,tt,tt,tt,tt,tt,tt,ff,ff,tt,tt,tt,tt,tt,tt,tt,ff,ff,ff] rfl rfl (any_of HT_.out (by kernel_rfl)) (fun _ _ _ h => h) (Or.inl ⟨by rfl, ?_⟩) ?_ ?_
   ·(intro w'; exact cat_run rfl (by kernel_rfl) (by kernel_rfl) (by simp only [List.length_append, le_length]; omega))
   rotate_left
   ·(simp only [Act.put,zA,zB,zC,i64_w,i32_w]; rfl)
   refine one_ (i := 16) (N := some 65) #[tt,tt,tt,tt,tt,tt,tt,tt,tt,tt,tt,tt,tt,tt,tt,tt,tt,ff,tt,tt,tt,tt,tt,tt,tt,ff,ff,ff] rfl rfl (one_of HT_.out (by kernel_rfl)) (by decide) (fun K hK => ?_)
   refine goes_ Try.func63 (by kernel_rfl) rfl #[.int .u64 p1, .int .i64 8] (by rfl) rfl rfl (by (try simp only [List.map_toArray, List.map_cons, List.map_nil]); first | done | rfl) ?_
   refine (put8 p1 Hp1.out.1 Hp1.out.2 _).mono ?_
   rintro e w' ⟨rfl, hb⟩
   have hHe := below_step hHeld hb
   clear hHeld hb
   refine ⟨_, rfl, ?_⟩
   refine hK _ _ hHe (fun hHeld => ?_)
   clear hK K hHe
   refine norm_ (a' := ?_) ?_ ?_
   rotate_left
   ·(show Act.put _ (some 65) _ = _; simp only [Act.put,zA,zB,zC,i64_w,i32_w]; rfl)
   refine pure_ (i := 17) (N := some 66) (v := .string (strOfNums ((L ++ le 1 p0) ++ le 8 p1))) (a' := ?_) #[tt,tt,tt,tt,tt,tt,tt,tt,tt,tt,tt,tt,tt,tt,tt,tt,tt,tt,tt,tt,tt,tt,tt,tt,tt,ff,ff,ff] rfl rfl (any_of HT_.out (by kernel_rfl)) (fun _ _ _ h => h) (Or.inl ⟨by rfl, ?_⟩) ?_ ?_
   ·(intro w'; exact cat_run rfl (by kernel_rfl) (by kernel_rfl) (by simp only [List.length_append, le_length]; omega))
   rotate_left
   ·(simp only [Act.put,zA,zB,zC,i64_w,i32_w]; rfl)
   refine one_ (i := 25) (N := some 74) #[tt,tt,tt,tt,tt,tt,tt,tt,tt,tt,tt,tt,tt,tt,tt,tt,tt,tt,tt,tt,tt,tt,tt,tt,tt,tt,ff,ff] rfl rfl (one_of HT_.out (by kernel_rfl)) (by decide) (fun K hK => ?_)
   refine goes_ Try.func63 (by kernel_rfl) rfl #[.int .u64 p2, .int .i64 1] (by rfl) rfl rfl (by (try simp only [List.map_toArray, List.map_cons, List.map_nil]); first | done | rfl) ?_
   refine (put1 p2 Hp2.out.1 Hp2.out.2 _).mono ?_
   rintro e w' ⟨rfl, hb⟩
   have hHe := below_step hHeld hb
   clear hHeld hb
   refine ⟨_, rfl, ?_⟩
   refine hK _ _ hHe (fun hHeld => ?_)
   clear hK K hHe
   refine norm_ (a' := ?_) ?_ ?_
   rotate_left
   ·(show Act.put _ (some 74) _ = _; simp only [Act.put,zA,zB,zC,i64_w,i32_w]; rfl)
   refine pure_ (i := 26) (N := some 75) (v := .string (strOfNums (((L ++ le 1 p0) ++ le 8 p1) ++ le 1 p2))) (a' := ?_) #[tt,tt,tt,tt,tt,tt,tt,tt,tt,tt,tt,tt,tt,tt,tt,tt,tt,tt,tt,tt,tt,tt,tt,tt,tt,tt,tt,ff] rfl rfl (any_of HT_.out (by kernel_rfl)) (fun _ _ _ h => h) (Or.inl ⟨by rfl, ?_⟩) ?_ ?_
   ·(intro w'; exact cat_run rfl (by kernel_rfl) (by kernel_rfl) (by simp only [List.length_append, le_length]; omega))
   rotate_left
   ·(simp only [Act.put,zA,zB,zC,i64_w,i32_w]; rfl)
   refine pure_ (i := 27) (N := some 4) (v := .string (strOfNums (((L ++ le 1 p0) ++ le 8 p1) ++ le 1 p2))) (a' := ?_) #[tt,tt,tt,tt,tt,tt,tt,tt,tt,tt,tt,tt,tt,tt,tt,tt,tt,tt,tt,tt,tt,tt,tt,tt,tt,tt,tt,tt] rfl rfl (any_of HT_.out (by kernel_rfl)) (fun _ _ _ h => h) (Or.inl ⟨by rfl, ?_⟩) ?_ ?_
   ·(intro w'; go_simp; first | done | with_reducible rfl | rfl)
   rotate_left
   ·(simp only [Act.put,zA,zB,zC,i64_w,i32_w]; rfl)
   refine done_ (done_of HT_.out (by kernel_rfl)) ?_
   have B7 := Aside0.mk (below_step BD.out hHeld)
   have K7 := Aside0.mk (blk_below K1d.out hHeld)
   have V7 := Aside0.mk (below_step BV.out hHeld)
   have HLL : Aside0 ((((L ++ le 1 p0) ++ le 8 p1) ++ le 1 p2) = L1 ++ (l5.take (j + 1)).flatMap encU) := ⟨by rw [HT.out, HL.out]; simp only [encU, List.append_assoc]⟩
   rw [HLL.out]
   clear HT_ HW_ hHeld
   go_wp2
   go_roundw
   case rel => exact ⟨j + 1, rfl, by go_num, ⟨hlt⟩, K7, V7, B7⟩
   case measure => simp [intOf]; omega
  ·have hjn : j = l5.length := by have := hj.out; omega
   obtain ⟨M, hM⟩ : ∃ M, M = L1 ++ l5.flatMap encU := ⟨_, rfl⟩
   have hnM : M.length ≤ 200 := by rw [hM, List.length_append, Go.Proofs.Ytondgoabnmgcaaa.Pure.len_encU, hn1]; omega
   rw [hjn, List.take_length, ← hM]
   have HM1 := Aside0.mk hM
   have hlt' : ¬ (j : Int) < (l5.length : Int) := by omega
   rw [hjn] at hlt'
   clear hM hlt hj
   go_upto_region 8 with (fail)
   refine start_ (n := 40) (S := fun w' => Below wr.drew.heap.size wr.drew w') (ds := []) #[ff,ff,ff,ff,ff,ff,ff,ff,ff,ff,ff,ff,ff,ff,ff,ff,ff,ff,ff,ff,ff,ff,ff,ff,ff,ff,ff,ff,ff,ff,ff,ff,ff,ff,ff,ff,ff,ff,ff,ff] (by kernel_rfl) rfl rfl (Below.refl _ _) (fun hHeld => ?_)
   have K1d := Aside0.mk (blk_drew KAr.out)
   have BD := Aside0.mk (below_drew1 HBw.out)
   have BV := Aside0.mk (below_drew1 HBd.out)
   generalize wr.drew = we at K1d BD BV hHeld ⊢
   refine with_tabW renc8_tab renc8_bits (fun HT_ HW_ => ?_)
   refine pure_ (i := 0) (N := some 76) (v := .string (strOfNums M)) (a' := ?_) #[tt,ff,ff,ff,ff,ff,ff,ff,ff,ff,ff,ff,ff,ff,ff,ff,ff,ff,ff,ff,ff,ff,ff,ff,ff,ff,ff,ff,ff,ff,ff,ff,ff,ff,ff,ff,ff,ff,ff,ff] rfl rfl (any_of HT_.out (by kernel_rfl)) (fun _ _ _ h => h) (Or.inl ⟨by rfl, ?_⟩) ?_ ?_
   ·(intro w'; go_simp; first | done | with_reducible rfl | rfl)
   rotate_left
   ·(simp only [Act.put,zA,zB,zC,i64_w,i32_w]; rfl)
   refine pure_ (i := 1) (N := some 77) (v := .pointer (some ⟨g1, 6, none⟩)) (a' := ?_) #[tt,tt,ff,ff,ff,ff,ff,ff,ff,ff,ff,ff,ff,ff,ff,ff,ff,ff,ff,ff,ff,ff,ff,ff,ff,ff,ff,ff,ff,ff,ff,ff,ff,ff,ff,ff,ff,ff,ff,ff] rfl rfl (any_of HT_.out (by kernel_rfl)) (fun _ _ _ h => h) (Or.inl ⟨by rfl, ?_⟩) ?_ ?_
   ·(intro w'; go_simp; first | done | with_reducible rfl | rfl)
   rotate_left
   ·(simp only [Act.put,zA,zB,zC,i64_w,i32_w]; rfl)
   refine pure_ (i := 2) (N := some 78) (v := .pointer (some ⟨g1, 6, none⟩)) (a' := ?_) #[tt,tt,tt,ff,ff,ff,ff,ff,ff,ff,ff,ff,ff,ff,ff,ff,ff,ff,ff,ff,ff,ff,ff,ff,ff,ff,ff,ff,ff,ff,ff,ff,ff,ff,ff,ff,ff,ff,ff,ff] rfl rfl (any_of HT_.out (by kernel_rfl)) (fun _ _ _ h => h) (Or.inl ⟨by rfl, ?_⟩) ?_ ?_
   ·(intro w'; go_simp; first | done | with_reducible rfl | rfl)
   rotate_left
   ·(simp only [Act.put,zA,zB,zC,i64_w,i32_w]; rfl)
   refine pure_ (i := 6) (N := some 82) (v := .pointer (some ⟨g1, 6, none⟩)) (a' := ?_) #[tt,tt,tt,ff,ff,ff,tt,ff,ff,ff,ff,ff,ff,ff,ff,ff,ff,ff,ff,ff,ff,ff,ff,ff,ff,ff,ff,ff,ff,ff,ff,ff,ff,ff,ff,ff,ff,ff,ff,ff] rfl rfl (any_of HT_.out (by kernel_rfl)) (fun _ _ _ h => h) (Or.inl ⟨by rfl, ?_⟩) ?_ ?_
   ·(intro w'; go_simp; first | done | with_reducible rfl | rfl)
   rotate_left
   ·(simp only [Act.put,zA,zB,zC,i64_w,i32_w]; rfl)
   refine pure_ (i := 7) (N := some 83) (v := .pointer (some ⟨g1, 7, none⟩)) (a' := ?_) #[tt,tt,tt,ff,ff,ff,tt,tt,ff,ff,ff,ff,ff,ff,ff,ff,ff,ff,ff,ff,ff,ff,ff,ff,ff,ff,ff,ff,ff,ff,ff,ff,ff,ff,ff,ff,ff,ff,ff,ff] rfl rfl (any_of HT_.out (by kernel_rfl)) (fun _ _ _ h => h) (Or.inl ⟨by rfl, ?_⟩) ?_ ?_
   ·(intro w'; go_simp; first | done | with_reducible rfl | rfl)
   rotate_left
   ·(simp only [Act.put,zA,zB,zC,i64_w,i32_w]; rfl)
   refine pure_ (i := 11) (N := some 87) (v := .pointer (some ⟨g1, 8, none⟩)) (a' := ?_) #[tt,tt,tt,ff,ff,ff,tt,tt,ff,ff,ff,tt,ff,ff,ff,ff,ff,ff,ff,ff,ff,ff,ff,ff,ff,ff,ff,ff,ff,ff,ff,ff,ff,ff,ff,ff,ff,ff,ff,ff] rfl rfl (any_of HT_.out (by kernel_rfl)) (fun _ _ _ h => h) (Or.inl ⟨by rfl, ?_⟩) ?_ ?_
   ·(intro w'; go_simp; first | done | with_reducible rfl | rfl)
   rotate_left
   ·(simp only [Act.put,zA,zB,zC,i64_w,i32_w]; rfl)
   refine pure_ (i := 15) (N := some 91) (v := .pointer (some ⟨g1, 9, none⟩)) (a' := ?_) #[tt,tt,tt,ff,ff,ff,tt,tt,ff,ff,ff,tt,ff,ff,ff,tt,ff,ff,ff,ff,ff,ff,ff,ff,ff,ff,ff,ff,ff,ff,ff,ff,ff,ff,ff,ff,ff,ff,ff,ff] rfl rfl (any_of HT_.out (by kernel_rfl)) (fun _ _ _ h => h) (Or.inl ⟨by rfl, ?_⟩) ?_ ?_
   ·(intro w'; go_simp; first | done | with_reducible rfl | rfl)
   rotate_left
   ·(simp only [Act.put,zA,zB,zC,i64_w,i32_w]; rfl)
   refine pure_ (i := 19) (N := some 95) (v := .pointer (some ⟨g1, 10, none⟩)) (a' := ?_) #[tt,tt,tt,ff,ff,ff,tt,tt,ff,ff,ff,tt,ff,ff,ff,tt,ff,ff,ff,tt,ff,ff,ff,ff,ff,ff,ff,ff,ff,ff,ff,ff,ff,ff,ff,ff,ff,ff,ff,ff] rfl rfl (any_of HT_.out (by kernel_rfl)) (fun _ _ _ h => h) (Or.inl ⟨by rfl, ?_⟩) ?_ ?_
   ·(intro w'; go_simp; first | done | with_reducible rfl | rfl)
   rotate_left
   ·(simp only [Act.put,zA,zB,zC,i64_w,i32_w]; rfl)
   refine pure_ (i := 20) (N := some 96) (v := .pointer (some ⟨g1, 10, none⟩)) (a' := ?_) #[tt,tt,tt,ff,ff,ff,tt,tt,ff,ff,ff,tt,ff,ff,ff,tt,ff,ff,ff,tt,tt,ff,ff,ff,ff,ff,ff,ff,ff,ff,ff,ff,ff,ff,ff,ff,ff,ff,ff,ff] rfl rfl (any_of HT_.out (by kernel_rfl)) (fun _ _ _ h => h) (Or.inl ⟨by rfl, ?_⟩) ?_ ?_
   ·(intro w'; go_simp; first | done | with_reducible rfl | rfl)
   rotate_left
   ·(simp only [Act.put,zA,zB,zC,i64_w,i32_w]; rfl)
   refine pure_ (i := 24) (N := some 100) (v := .pointer (some ⟨g1, 10, none⟩)) (a' := ?_) #[tt,tt,tt,ff,ff,ff,tt,tt,ff,ff,ff,tt,ff,ff,ff,tt,ff,ff,ff,tt,tt,ff,ff,ff,tt,ff,ff,ff,ff,ff,ff,ff,ff,ff,ff,ff,ff,ff,ff,ff] rfl rfl (any_of HT_.out (by kernel_rfl)) (fun _ _ _ h => h) (Or.inl ⟨by rfl, ?_⟩) ?_ ?_
   ·(intro w'; go_simp; first | done | with_reducible rfl | rfl)
   rotate_left
   ·(simp only [Act.put,zA,zB,zC,i64_w,i32_w]; rfl)
   refine pure_ (i := 25) (N := some 101) (v := .pointer (some ⟨g1, 11, none⟩)) (a' := ?_) #[tt,tt,tt,ff,ff,ff,tt,tt,ff,ff,ff,tt,ff,ff,ff,tt,ff,ff,ff,tt,tt,ff,ff,ff,tt,tt,ff,ff,ff,ff,ff,ff,ff,ff,ff,ff,ff,ff,ff,ff] rfl rfl (any_of HT_.out (by kernel_rfl)) (fun _ _ _ h => h) (Or.inl ⟨by rfl, ?_⟩) ?_ ?_
   ·(intro w'; go_simp; first | done | with_reducible rfl | rfl)
   rotate_left
   ·(simp only [Act.put,zA,zB,zC,i64_w,i32_w]; rfl)
   refine pure_ (i := 29) (N := some 105) (v := .pointer (some ⟨g1, 12, none⟩)) (a' := ?_) #[tt,tt,tt,ff,ff,ff,tt,tt,ff,ff,ff,tt,ff,ff,ff,tt,ff,ff,ff,tt,tt,ff,ff,ff,tt,tt,ff,ff,ff,tt,ff,ff,ff,ff,ff,ff,ff,ff,ff,ff] rfl rfl (any_of HT_.out (by kernel_rfl)) (fun _ _ _ h => h) (Or.inl ⟨by rfl, ?_⟩) ?_ ?_
   ·(intro w'; go_simp; first | done | with_reducible rfl | rfl)
   rotate_left
   ·(simp only [Act.put,zA,zB,zC,i64_w,i32_w]; rfl)
   refine pure_ (i := 33) (N := some 109) (v := .pointer (some ⟨g1, 13, none⟩)) (a' := ?_) #[tt,tt,tt,ff,ff,ff,tt,tt,ff,ff,ff,tt,ff,ff,ff,tt,ff,ff,ff,tt,tt,ff,ff,ff,tt,tt,ff,ff,ff,tt,ff,ff,ff,tt,ff,ff,ff,ff,ff,ff] rfl rfl (any_of HT_.out (by kernel_rfl)) (fun _ _ _ h => h) (Or.inl ⟨by rfl, ?_⟩) ?_ ?_
   ·(intro w'; go_simp; first | done | with_reducible rfl | rfl)
   rotate_left
   ·(simp only [Act.put,zA,zB,zC,i64_w,i32_w]; rfl)
   refine take_ (i := 3) (N := some 79) (v := .int .u64 a6) (a' := ?_) #[tt,tt,tt,tt,ff,ff,tt,tt,ff,ff,ff,tt,ff,ff,ff,tt,ff,ff,ff,tt,tt,ff,ff,ff,tt,tt,ff,ff,ff,tt,ff,ff,ff,tt,ff,ff,ff,ff,ff,ff] rfl rfl (take_ofW HT_.out HW_.out (by kernel_rfl)) (fun _ _ _ h => h) (Or.inl ⟨by rfl, ?_⟩) hHeld ?_ ?_
   ·(intro w' s0; have xq := (blk_cell (blk_below K1d.out s0) 6).trans rfl; go_simp; first | done | with_reducible rfl | rfl)
   rotate_left
   ·(simp only [Act.put,zA,zB,zC,i64_w,i32_w]; rfl)
   refine take_ (i := 8) (N := some 84) (v := .int .u64 a7) (a' := ?_) #[tt,tt,tt,tt,ff,ff,tt,tt,tt,ff,ff,tt,ff,ff,ff,tt,ff,ff,ff,tt,tt,ff,ff,ff,tt,tt,ff,ff,ff,tt,ff,ff,ff,tt,ff,ff,ff,ff,ff,ff] rfl rfl (take_ofW HT_.out HW_.out (by kernel_rfl)) (fun _ _ _ h => h) (Or.inl ⟨by rfl, ?_⟩) hHeld ?_ ?_
   ·(intro w' s0; have xq := (blk_cell (blk_below K1d.out s0) 7).trans rfl; go_simp; first | done | with_reducible rfl | rfl)
   rotate_left
   ·(simp only [Act.put,zA,zB,zC,i64_w,i32_w]; rfl)
   refine take_ (i := 12) (N := some 88) (v := .int .u64 a8) (a' := ?_) #[tt,tt,tt,tt,ff,ff,tt,tt,tt,ff,ff,tt,tt,ff,ff,tt,ff,ff,ff,tt,tt,ff,ff,ff,tt,tt,ff,ff,ff,tt,ff,ff,ff,tt,ff,ff,ff,ff,ff,ff] rfl rfl (take_ofW HT_.out HW_.out (by kernel_rfl)) (fun _ _ _ h => h) (Or.inl ⟨by rfl, ?_⟩) hHeld ?_ ?_
   ·(intro w' s0; have xq := (blk_cell (blk_below K1d.out s0) 8).trans rfl; go_simp; first | done | with_reducible rfl | rfl)
   rotate_left
   ·(simp only [Act.put,zA,zB,zC,i64_w,i32_w]; rfl)
   refine take_ (i := 16) (N := some 92) (v := .int .u64 a9) (a' := ?_) #[tt,tt,tt,tt,ff,ff,tt,tt,tt,ff,ff,tt,tt,ff,ff,tt,tt,ff,ff,tt,tt,ff,ff,ff,tt,tt,ff,ff,ff,tt,ff,ff,ff,tt,ff,ff,ff,ff,ff,ff] rfl rfl (take_ofW HT_.out HW_.out (by kernel_rfl)) (fun _ _ _ h => h) (Or.inl ⟨by rfl, ?_⟩) hHeld ?_ ?_
   ·(intro w' s0; have xq := (blk_cell (blk_below K1d.out s0) 9).trans rfl; go_simp; first | done | with_reducible rfl | rfl)
   rotate_left
   ·(simp only [Act.put,zA,zB,zC,i64_w,i32_w]; rfl)
   refine take_ (i := 21) (N := some 97) (v := .int .u64 a10) (a' := ?_) #[tt,tt,tt,tt,ff,ff,tt,tt,tt,ff,ff,tt,tt,ff,ff,tt,tt,ff,ff,tt,tt,tt,ff,ff,tt,tt,ff,ff,ff,tt,ff,ff,ff,tt,ff,ff,ff,ff,ff,ff] rfl rfl (take_ofW HT_.out HW_.out (by kernel_rfl)) (fun _ _ _ h => h) (Or.inl ⟨by rfl, ?_⟩) hHeld ?_ ?_
   ·(intro w' s0; have xq := (blk_cell (blk_below K1d.out s0) 10).trans rfl; go_simp; first | done | with_reducible rfl | rfl)
   rotate_left
   ·(simp only [Act.put,zA,zB,zC,i64_w,i32_w]; rfl)
   refine take_ (i := 26) (N := some 102) (v := .int .u64 a11) (a' := ?_) #[tt,tt,tt,tt,ff,ff,tt,tt,tt,ff,ff,tt,tt,ff,ff,tt,tt,ff,ff,tt,tt,tt,ff,ff,tt,tt,tt,ff,ff,tt,ff,ff,ff,tt,ff,ff,ff,ff,ff,ff] rfl rfl (take_ofW HT_.out HW_.out (by kernel_rfl)) (fun _ _ _ h => h) (Or.inl ⟨by rfl, ?_⟩) hHeld ?_ ?_
   ·(intro w' s0; have xq := (blk_cell (blk_below K1d.out s0) 11).trans rfl; go_simp; first | done | with_reducible rfl | rfl)
   rotate_left
   ·(simp only [Act.put,zA,zB,zC,i64_w,i32_w]; rfl)
   refine take_ (i := 30) (N := some 106) (v := .int .u64 a12) (a' := ?_) #[tt,tt,tt,tt,ff,ff,tt,tt,tt,ff,ff,tt,tt,ff,ff,tt,tt,ff,ff,tt,tt,tt,ff,ff,tt,tt,tt,ff,ff,tt,tt,ff,ff,tt,ff,ff,ff,ff,ff,ff] rfl rfl (take_ofW HT_.out HW_.out (by kernel_rfl)) (fun _ _ _ h => h) (Or.inl ⟨by rfl, ?_⟩) hHeld ?_ ?_
   ·(intro w' s0; have xq := (blk_cell (blk_below K1d.out s0) 12).trans rfl; go_simp; first | done | with_reducible rfl | rfl)
   rotate_left
   ·(simp only [Act.put,zA,zB,zC,i64_w,i32_w]; rfl)
   refine take_ (i := 34) (N := some 110) (v := .slice A13 l13.length c13) (a' := ?_) #[tt,tt,tt,tt,ff,ff,tt,tt,tt,ff,ff,tt,tt,ff,ff,tt,tt,ff,ff,tt,tt,tt,ff,ff,tt,tt,tt,ff,ff,tt,tt,ff,ff,tt,tt,ff,ff,ff,ff,ff] rfl rfl (take_ofW HT_.out HW_.out (by kernel_rfl)) (fun _ _ _ h => h) (Or.inl ⟨by rfl, ?_⟩) hHeld ?_ ?_
   ·(intro w' s0; have xq := (blk_cell (blk_below K1d.out s0) 13).trans rfl; go_simp; first | done | with_reducible rfl | rfl)
   rotate_left
   ·(simp only [Act.put,zA,zB,zC,i64_w,i32_w]; rfl)
   refine pure_ (i := 35) (N := some 111) (v := .int .i64 (l13.length : Int)) (a' := ?_) #[tt,tt,tt,tt,ff,ff,tt,tt,tt,ff,ff,tt,tt,ff,ff,tt,tt,ff,ff,tt,tt,tt,ff,ff,tt,tt,tt,ff,ff,tt,tt,ff,ff,tt,tt,tt,ff,ff,ff,ff] rfl rfl (any_of HT_.out (by kernel_rfl)) (fun _ _ _ h => h) (Or.inl ⟨by rfl, ?_⟩) ?_ ?_
   ·(intro w'; go_simp; first | done | with_reducible rfl | rfl)
   rotate_left
   ·(simp only [Act.put,zA,zB,zC,i64_w,i32_w]; rfl)
   refine pure_ (i := 36) (N := some 112) (v := .int .u64 (l13.length : Int)) (a' := ?_) #[tt,tt,tt,tt,ff,ff,tt,tt,tt,ff,ff,tt,tt,ff,ff,tt,tt,ff,ff,tt,tt,tt,ff,ff,tt,tt,tt,ff,ff,tt,tt,ff,ff,tt,tt,tt,tt,ff,ff,ff] rfl rfl (any_of HT_.out (by kernel_rfl)) (fun _ _ _ h => h) (Or.inl ⟨by rfl, ?_⟩) ?_ ?_
   ·(intro w'; go_simp; first | done | rfl | simp [Hl13w.out])
   rotate_left
   ·(simp only [Act.put,zA,zB,zC,i64_w,i32_w]; rfl)
   refine one_ (i := 4) (N := some 80) #[tt,tt,tt,tt,tt,ff,tt,tt,tt,ff,ff,tt,tt,ff,ff,tt,tt,ff,ff,tt,tt,tt,ff,ff,tt,tt,tt,ff,ff,tt,tt,ff,ff,tt,tt,tt,tt,ff,ff,ff] rfl rfl (one_of HT_.out (by kernel_rfl)) (by decide) (fun K hK => ?_)
   refine goes_ Try.func63 (by kernel_rfl) rfl #[.int .u64 a6, .int .i64 8] (by rfl) rfl rfl (by (try simp only [List.map_toArray, List.map_cons, List.map_nil]); first | done | rfl) ?_
   refine (put8 a6 Ha6.out.1 Ha6.out.2 _).mono ?_
   rintro e w' ⟨rfl, hb⟩
   have hHe := below_step hHeld hb
   clear hHeld hb
   refine ⟨_, rfl, ?_⟩
   refine hK _ _ hHe (fun hHeld => ?_)
   clear hK K hHe
   refine norm_ (a' := ?_) ?_ ?_
   rotate_left
   ·(show Act.put _ (some 80) _ = _; simp only [Act.put,zA,zB,zC,i64_w,i32_w]; rfl)
   refine pure_ (i := 5) (N := some 81) (v := .string (strOfNums (M ++ le 8 a6))) (a' := ?_) #[tt,tt,tt,tt,tt,tt,tt,tt,tt,ff,ff,tt,tt,ff,ff,tt,tt,ff,ff,tt,tt,tt,ff,ff,tt,tt,tt,ff,ff,tt,tt,ff,ff,tt,tt,tt,tt,ff,ff,ff] rfl rfl (any_of HT_.out (by kernel_rfl)) (fun _ _ _ h => h) (Or.inl ⟨by rfl, ?_⟩) ?_ ?_
   ·(intro w'; exact cat_run rfl (by kernel_rfl) (by kernel_rfl) (by simp only [List.length_append, le_length]; omega))
   rotate_left
   ·(simp only [Act.put,zA,zB,zC,i64_w,i32_w]; rfl)
   refine one_ (i := 9) (N := some 85) #[tt,tt,tt,tt,tt,tt,tt,tt,tt,tt,ff,tt,tt,ff,ff,tt,tt,ff,ff,tt,tt,tt,ff,ff,tt,tt,tt,ff,ff,tt,tt,ff,ff,tt,tt,tt,tt,ff,ff,ff] rfl rfl (one_of HT_.out (by kernel_rfl)) (by decide) (fun K hK => ?_)
   refine goes_ Try.func63 (by kernel_rfl) rfl #[.int .u64 a7, .int .i64 8] (by rfl) rfl rfl (by (try simp only [List.map_toArray, List.map_cons, List.map_nil]); first | done | rfl) ?_
   refine (put8 a7 Ha7.out.1 Ha7.out.2 _).mono ?_
   rintro e w' ⟨rfl, hb⟩
   have hHe := below_step hHeld hb
   clear hHeld hb
   refine ⟨_, rfl, ?_⟩
   refine hK _ _ hHe (fun hHeld => ?_)
   clear hK K hHe
   refine norm_ (a' := ?_) ?_ ?_
   rotate_left
   ·(show Act.put _ (some 85) _ = _; simp only [Act.put,zA,zB,zC,i64_w,i32_w]; rfl)
   refine pure_ (i := 10) (N := some 86) (v := .string (strOfNums ((M ++ le 8 a6) ++ le 8 a7))) (a' := ?_) #[tt,tt,tt,tt,tt,tt,tt,tt,tt,tt,tt,tt,tt,ff,ff,tt,tt,ff,ff,tt,tt,tt,ff,ff,tt,tt,tt,ff,ff,tt,tt,ff,ff,tt,tt,tt,tt,ff,ff,ff] rfl rfl (any_of HT_.out (by kernel_rfl)) (fun _ _ _ h => h) (Or.inl ⟨by rfl, ?_⟩) ?_ ?_
   ·(intro w'; exact cat_run rfl (by kernel_rfl) (by kernel_rfl) (by simp only [List.length_append, le_length]; omega))
   rotate_left
   ·(simp only [Act.put,zA,zB,zC,i64_w,i32_w]; rfl)
   refine one_ (i := 13) (N := some 89) #[tt,tt,tt,tt,tt,tt,tt,tt,tt,tt,tt,tt,tt,tt,ff,tt,tt,ff,ff,tt,tt,tt,ff,ff,tt,tt,tt,ff,ff,tt,tt,ff,ff,tt,tt,tt,tt,ff,ff,ff] rfl rfl (one_of HT_.out (by kernel_rfl)) (by decide) (fun K hK => ?_)
   refine goes_ Try.func63 (by kernel_rfl) rfl #[.int .u64 a8, .int .i64 8] (by rfl) rfl rfl (by (try simp only [List.map_toArray, List.map_cons, List.map_nil]); first | done | rfl) ?_
   refine (put8 a8 Ha8.out.1 Ha8.out.2 _).mono ?_
   rintro e w' ⟨rfl, hb⟩
   have hHe := below_step hHeld hb
   clear hHeld hb
   refine ⟨_, rfl, ?_⟩
   refine hK _ _ hHe (fun hHeld => ?_)
   clear hK K hHe
   refine norm_ (a' := ?_) ?_ ?_
   rotate_left
   ·(show Act.put _ (some 89) _ = _; simp only [Act.put,zA,zB,zC,i64_w,i32_w]; rfl)
   refine pure_ (i := 14) (N := some 90) (v := .string (strOfNums (((M ++ le 8 a6) ++ le 8 a7) ++ le 8 a8))) (a' := ?_) #[tt,tt,tt,tt,tt,tt,tt,tt,tt,tt,tt,tt,tt,tt,tt,tt,tt,ff,ff,tt,tt,tt,ff,ff,tt,tt,tt,ff,ff,tt,tt,ff,ff,tt,tt,tt,tt,ff,ff,ff] rfl rfl (any_of HT_.out (by kernel_rfl)) (fun _ _ _ h => h) (Or.inl ⟨by rfl, ?_⟩) ?_ ?_
   ·(intro w'; exact cat_run rfl (by kernel_rfl) (by kernel_rfl) (by simp only [List.length_append, le_length]; omega))
   rotate_left
   ·(simp only [Act.put,zA,zB,zC,i64_w,i32_w]; rfl)
   refine one_ (i := 17) (N := some 93) #[tt,tt,tt,tt,tt,tt,tt,tt,tt,tt,tt,tt,tt,tt,tt,tt,tt,tt,ff,tt,tt,tt,ff,ff,tt,tt,tt,ff,ff,tt,tt,ff,ff,tt,tt,tt,tt,ff,ff,ff] rfl rfl (one_of HT_.out (by kernel_rfl)) (by decide) (fun K hK => ?_)
   refine goes_ Try.func63 (by kernel_rfl) rfl #[.int .u64 a9, .int .i64 8] (by rfl) rfl rfl (by (try simp only [List.map_toArray, List.map_cons, List.map_nil]); first | done | rfl) ?_
   refine (put8 a9 Ha9.out.1 Ha9.out.2 _).mono ?_
   rintro e w' ⟨rfl, hb⟩
   have hHe := below_step hHeld hb
   clear hHeld hb
   refine ⟨_, rfl, ?_⟩
   refine hK _ _ hHe (fun hHeld => ?_)
   clear hK K hHe
   refine norm_ (a' := ?_) ?_ ?_
   rotate_left
   ·(show Act.put _ (some 93) _ = _; simp only [Act.put,zA,zB,zC,i64_w,i32_w]; rfl)
   refine pure_ (i := 18) (N := some 94) (v := .string (strOfNums ((((M ++ le 8 a6) ++ le 8 a7) ++ le 8 a8) ++ le 8 a9))) (a' := ?_) #[tt,tt,tt,tt,tt,tt,tt,tt,tt,tt,tt,tt,tt,tt,tt,tt,tt,tt,tt,tt,tt,tt,ff,ff,tt,tt,tt,ff,ff,tt,tt,ff,ff,tt,tt,tt,tt,ff,ff,ff] rfl rfl (any_of HT_.out (by kernel_rfl)) (fun _ _ _ h => h) (Or.inl ⟨by rfl, ?_⟩) ?_ ?_
   ·(intro w'; exact cat_run rfl (by kernel_rfl) (by kernel_rfl) (by simp only [List.length_append, le_length]; omega))
   rotate_left
   ·(simp only [Act.put,zA,zB,zC,i64_w,i32_w]; rfl)
   refine one_ (i := 22) (N := some 98) #[tt,tt,tt,tt,tt,tt,tt,tt,tt,tt,tt,tt,tt,tt,tt,tt,tt,tt,tt,tt,tt,tt,tt,ff,tt,tt,tt,ff,ff,tt,tt,ff,ff,tt,tt,tt,tt,ff,ff,ff] rfl rfl (one_of HT_.out (by kernel_rfl)) (by decide) (fun K hK => ?_)
   refine goes_ Try.func63 (by kernel_rfl) rfl #[.int .u64 a10, .int .i64 8] (by rfl) rfl rfl (by (try simp only [List.map_toArray, List.map_cons, List.map_nil]); first | done | rfl) ?_
   refine (put8 a10 Ha10.out.1 Ha10.out.2 _).mono ?_
   rintro e w' ⟨rfl, hb⟩
   have hHe := below_step hHeld hb
   clear hHeld hb
   refine ⟨_, rfl, ?_⟩
   refine hK _ _ hHe (fun hHeld => ?_)
   clear hK K hHe
   refine norm_ (a' := ?_) ?_ ?_
   rotate_left
   ·(show Act.put _ (some 98) _ = _; simp only [Act.put,zA,zB,zC,i64_w,i32_w]; rfl)
   refine pure_ (i := 23) (N := some 99) (v := .string (strOfNums (((((M ++ le 8 a6) ++ le 8 a7) ++ le 8 a8) ++ le 8 a9) ++ le 8 a10))) (a' := ?_) #[tt,tt,tt,tt,tt,tt,tt,tt,tt,tt,tt,tt,tt,tt,tt,tt,tt,tt,tt,tt,tt,tt,tt,tt,tt,tt,tt,ff,ff,tt,tt,ff,ff,tt,tt,tt,tt,ff,ff,ff] rfl rfl (any_of HT_.out (by kernel_rfl)) (fun _ _ _ h => h) (Or.inl ⟨by rfl, ?_⟩) ?_ ?_
   ·(intro w'; exact cat_run rfl (by kernel_rfl) (by kernel_rfl) (by simp only [List.length_append, le_length]; omega))
   rotate_left
   ·(simp only [Act.put,zA,zB,zC,i64_w,i32_w]; rfl)
   refine one_ (i := 27) (N := some 103) #[tt,tt,tt,tt,tt,tt,tt,tt,tt,tt,tt,tt,tt,tt,tt,tt,tt,tt,tt,tt,tt,tt,tt,tt,tt,tt,tt,tt,ff,tt,tt,ff,ff,tt,tt,tt,tt,ff,ff,ff] rfl rfl (one_of HT_.out (by kernel_rfl)) (by decide) (fun K hK => ?_)
   refine goes_ Try.func63 (by kernel_rfl) rfl #[.int .u64 a11, .int .i64 8] (by rfl) rfl rfl (by (try simp only [List.map_toArray, List.map_cons, List.map_nil]); first | done | rfl) ?_
   refine (put8 a11 Ha11.out.1 Ha11.out.2 _).mono ?_
   rintro e w' ⟨rfl, hb⟩
   have hHe := below_step hHeld hb
   clear hHeld hb
   refine ⟨_, rfl, ?_⟩
   refine hK _ _ hHe (fun hHeld => ?_)
   clear hK K hHe
   refine norm_ (a' := ?_) ?_ ?_
   rotate_left
   ·(show Act.put _ (some 103) _ = _; simp only [Act.put,zA,zB,zC,i64_w,i32_w]; rfl)
   refine pure_ (i := 28) (N := some 104) (v := .string (strOfNums ((((((M ++ le 8 a6) ++ le 8 a7) ++ le 8 a8) ++ le 8 a9) ++ le 8 a10) ++ le 8 a11))) (a' := ?_) #[tt,tt,tt,tt,tt,tt,tt,tt,tt,tt,tt,tt,tt,tt,tt,tt,tt,tt,tt,tt,tt,tt,tt,tt,tt,tt,tt,tt,tt,tt,tt,ff,ff,tt,tt,tt,tt,ff,ff,ff] rfl rfl (any_of HT_.out (by kernel_rfl)) (fun _ _ _ h => h) (Or.inl ⟨by rfl, ?_⟩) ?_ ?_
   ·(intro w'; exact cat_run rfl (by kernel_rfl) (by kernel_rfl) (by simp only [List.length_append, le_length]; omega))
   rotate_left
   ·(simp only [Act.put,zA,zB,zC,i64_w,i32_w]; rfl)
   refine one_ (i := 31) (N := some 107) #[tt,tt,tt,tt,tt,tt,tt,tt,tt,tt,tt,tt,tt,tt,tt,tt,tt,tt,tt,tt,tt,tt,tt,tt,tt,tt,tt,tt,tt,tt,tt,tt,ff,tt,tt,tt,tt,ff,ff,ff] rfl rfl (one_of HT_.out (by kernel_rfl)) (by decide) (fun K hK => ?_)
   refine goes_ Try.func63 (by kernel_rfl) rfl #[.int .u64 a12, .int .i64 8] (by rfl) rfl rfl (by (try simp only [List.map_toArray, List.map_cons, List.map_nil]); first | done | rfl) ?_
   refine (put8 a12 Ha12.out.1 Ha12.out.2 _).mono ?_
   rintro e w' ⟨rfl, hb⟩
   have hHe := below_step hHeld hb
   clear hHeld hb
   refine ⟨_, rfl, ?_⟩
   refine hK _ _ hHe (fun hHeld => ?_)
   clear hK K hHe
   refine norm_ (a' := ?_) ?_ ?_
   rotate_left
   ·(show Act.put _ (some 107) _ = _; simp only [Act.put,zA,zB,zC,i64_w,i32_w]; rfl)
   refine pure_ (i := 32) (N := some 108) (v := .string (strOfNums (((((((M ++ le 8 a6) ++ le 8 a7) ++ le 8 a8) ++ le 8 a9) ++ le 8 a10) ++ le 8 a11) ++ le 8 a12))) (a' := ?_) #[tt,tt,tt,tt,tt,tt,tt,tt,tt,tt,tt,tt,tt,tt,tt,tt,tt,tt,tt,tt,tt,tt,tt,tt,tt,tt,tt,tt,tt,tt,tt,tt,tt,tt,tt,tt,tt,ff,ff,ff] rfl rfl (any_of HT_.out (by kernel_rfl)) (fun _ _ _ h => h) (Or.inl ⟨by rfl, ?_⟩) ?_ ?_
   ·(intro w'; exact cat_run rfl (by kernel_rfl) (by kernel_rfl) (by simp only [List.length_append, le_length]; omega))
   rotate_left
   ·(simp only [Act.put,zA,zB,zC,i64_w,i32_w]; rfl)
   refine one_ (i := 37) (N := some 113) #[tt,tt,tt,tt,tt,tt,tt,tt,tt,tt,tt,tt,tt,tt,tt,tt,tt,tt,tt,tt,tt,tt,tt,tt,tt,tt,tt,tt,tt,tt,tt,tt,tt,tt,tt,tt,tt,tt,ff,ff] rfl rfl (one_of HT_.out (by kernel_rfl)) (by decide) (fun K hK => ?_)
   refine goes_ Try.func63 (by kernel_rfl) rfl #[.int .u64 (l13.length : Int), .int .i64 1] (by rfl) rfl rfl (by (try simp only [List.map_toArray, List.map_cons, List.map_nil]); first | done | rfl) ?_
   refine (put1 (l13.length : Int) Hl13.out.1 Hl13.out.2 _).mono ?_
   rintro e w' ⟨rfl, hb⟩
   have hHe := below_step hHeld hb
   clear hHeld hb
   refine ⟨_, rfl, ?_⟩
   refine hK _ _ hHe (fun hHeld => ?_)
   clear hK K hHe
   refine norm_ (a' := ?_) ?_ ?_
   rotate_left
   ·(show Act.put _ (some 113) _ = _; simp only [Act.put,zA,zB,zC,i64_w,i32_w]; rfl)
   refine pure_ (i := 38) (N := some 114) (v := .string (strOfNums ((((((((M ++ le 8 a6) ++ le 8 a7) ++ le 8 a8) ++ le 8 a9) ++ le 8 a10) ++ le 8 a11) ++ le 8 a12) ++ le 1 (l13.length : Int)))) (a' := ?_) #[tt,tt,tt,tt,tt,tt,tt,tt,tt,tt,tt,tt,tt,tt,tt,tt,tt,tt,tt,tt,tt,tt,tt,tt,tt,tt,tt,tt,tt,tt,tt,tt,tt,tt,tt,tt,tt,tt,tt,ff] rfl rfl (any_of HT_.out (by kernel_rfl)) (fun _ _ _ h => h) (Or.inl ⟨by rfl, ?_⟩) ?_ ?_
   ·(intro w'; exact cat_run rfl (by kernel_rfl) (by kernel_rfl) (by simp only [List.length_append, le_length]; omega))
   rotate_left
   ·(simp only [Act.put,zA,zB,zC,i64_w,i32_w]; rfl)
   refine pure_ (i := 39) (N := some 4) (v := .string (strOfNums ((((((((M ++ le 8 a6) ++ le 8 a7) ++ le 8 a8) ++ le 8 a9) ++ le 8 a10) ++ le 8 a11) ++ le 8 a12) ++ le 1 (l13.length : Int)))) (a' := ?_) #[tt,tt,tt,tt,tt,tt,tt,tt,tt,tt,tt,tt,tt,tt,tt,tt,tt,tt,tt,tt,tt,tt,tt,tt,tt,tt,tt,tt,tt,tt,tt,tt,tt,tt,tt,tt,tt,tt,tt,tt] rfl rfl (any_of HT_.out (by kernel_rfl)) (fun _ _ _ h => h) (Or.inl ⟨by rfl, ?_⟩) ?_ ?_
   ·(intro w'; go_simp; first | done | with_reducible rfl | rfl)
   rotate_left
   ·(simp only [Act.put,zA,zB,zC,i64_w,i32_w]; rfl)
   refine done_ (done_of HT_.out (by kernel_rfl)) ?_
   have B8 := Aside0.mk (below_step BD.out hHeld)
   have K8 := Aside0.mk (blk_below K1d.out hHeld)
   have V8 := Aside0.mk (below_step BV.out hHeld)
   obtain ⟨N, hN⟩ : ∃ N, N = ((((((((M ++ le 8 a6) ++ le 8 a7) ++ le 8 a8) ++ le 8 a9) ++ le 8 a10) ++ le 8 a11) ++ le 8 a12) ++ le 1 (l13.length : Int)) := ⟨_, rfl⟩
   have hnN : N.length ≤ 400 := by rw [hN]; simp only [List.length_append, le_length]; omega
   rw [← hN]
   have HN := Aside0.mk hN
   clear hN HT_ HW_ hHeld KAr HBd HBw K1d BD BV xa
   have hlen13 : (l13.length : Int) ≤ 9223372036854775807 := by omega
   rename World => wy
   go_wp2
   go_loopw [4, 6] (fun v i wr => ∃ j : Nat, v = .string (strOfNums (N ++ (l13.take j).flatMap encQ)) ∧ i = .int .i64 j ∧ Aside0 (j ≤ l13.length) ∧ Aside0 (wr.heap[g1]? = some (.cells #[.int .i64 a0, .int .i64 a1, .int .i64 a2, .int .u64 a3, .int .i64 a4, .slice A5 l5.length c5, .int .u64 a6, .int .u64 a7, .int .u64 a8, .int .u64 a9, .int .u64 a10, .int .u64 a11, .int .u64 a12, .slice A13 l13.length c13, .slice A14 l14.length c14, .float .f64 a15] 38 (0, 0))) ∧ Aside0 (Below wd.heap.size wd wr) ∧ Aside0 (Below w.heap.size w wr))
    (fun _ i _ => l13.length - (intOf i).toNat)
   case atStart => exact ⟨0, by simp, rfl, ⟨Nat.zero_le _⟩, K8, V8, B8⟩
   case round =>
    obtain ⟨j, rfl, rfl, hj, KAr, HBd, HBw⟩ := hrel
    clear K8 V8 B8
    have xa := fun i => blk_cell KAr.out i
    by_cases hlt : j < l13.length
    ·obtain ⟨ad, e, hy0, hy1, hy2, hy3⟩ := at_T90 (Kd.C_below H13d.out HBd.out) (j : Int) (by omega) (by omega)
     simp only [Int.toNat_natCast] at hy0 hy1 hy2 hy3
     obtain rfl := e
     have HR := Aside0.mk (hu13 l13[j] (List.getElem_mem hlt))
     have HT : Aside0 ((l13.take (j + 1)).flatMap encQ = (l13.take j).flatMap encQ ++ encQ (rd_T90 l13 (j : Int))) := ⟨by rw [rd90' l13 j hlt, List.take_succ_eq_append_getElem hlt, List.flatMap_append]; simp⟩
     rw [← rd90' l13 j hlt] at HR
     generalize rd_T90 l13 (j : Int) = p at hy0 hy1 hy2 hy3 HR HT
     obtain ⟨p0, p1, p2, p3⟩ := p
     dsimp only at hy0 hy1 hy2 hy3 HR
     have Hp0 := Aside0.mk HR.out.1
     have Hp1 := Aside0.mk HR.out.2.1
     have Hp1w := Aside0.mk (u64w p1 (by have := HR.out.2.1; omega))
     have Hp2 := Aside0.mk HR.out.2.2.1
     have hp3 : p3.size ≤ 64 := HR.out.2.2.2
     have HTx : Aside0 (conventicleref01_Text.f p3 = some (strOfNums (le 2 p3.size) ++ p3, 0)) := ⟨by unfold conventicleref01_Text.f; rw [if_pos (by omega)]⟩
     have hlti : (j : Int) < (l13.length : Int) := by omega
     have hLn : (N ++ (l13.take j).flatMap encQ).length ≤ 1000 := by
      have := len_encQ (l13.take j) (fun q hq => (hu13 q (List.mem_of_mem_take hq)).2.2.2)
      rw [List.length_take] at this
      rw [List.length_append]; omega
     obtain ⟨L, hL⟩ : ∃ L, L = N ++ (l13.take j).flatMap encQ := ⟨_, rfl⟩
     rw [← hL] at hLn ⊢
     have HL := Aside0.mk hL
     clear hL
     have hz : (bytesOf p3).length ≤ 64 := by rw [bytesOf_len]; exact hp3
     go_upto_region 13 with (go_at_call 64; refine (conventicleref01_Text.calls p3 _ 0 _ HTx.out).mono ?_; rintro e wt ⟨rfl, hb⟩; rw [txt_str p3]; have HB9 := Aside0.mk hb; clear hb)
     have KB := Aside0.mk (blk_below KAr.out HB9.out)
     have BB := Aside0.mk (below_step HBw.out HB9.out)
     have VB := Aside0.mk (below_step HBd.out HB9.out)
     have E0 := Aside0.mk ((blk_d HB9.out hy0).trans hy0)
     have E1 := Aside0.mk ((blk_d HB9.out hy1).trans hy1)
     have E2 := Aside0.mk ((blk_d HB9.out hy2).trans hy2)
     clear hy0 hy1 hy2 hy3 KAr HBw HBd HB9 xa
     refine start_ (n := 31) (S := fun w' => Below wt.drew.heap.size wt.drew w') (ds := []) #[ff,ff,ff,ff,ff,ff,ff,ff,ff,ff,ff,ff,ff,ff,ff,ff,ff,ff,ff,ff,ff,ff,ff,ff,ff,ff,ff,ff,ff,ff,ff] (by kernel_rfl) rfl rfl (Below.refl _ _) (fun hHeld => ?_)
     have K1d := Aside0.mk (blk_drew KB.out)
     have BD := Aside0.mk (below_drew1 BB.out)
     have BV := Aside0.mk (below_drew1 VB.out)
     generalize wt.drew = we at K1d BD BV E0 E1 E2 hHeld ⊢
     refine with_tabW renc13_tab renc13_bits (fun HT_ HW_ => ?_)
     refine pure_ (i := 0) (N := some 133) (v := .string (strOfNums L)) (a' := ?_) #[tt,ff,ff,ff,ff,ff,ff,ff,ff,ff,ff,ff,ff,ff,ff,ff,ff,ff,ff,ff,ff,ff,ff,ff,ff,ff,ff,ff,ff,ff,ff] rfl rfl (any_of HT_.out (by kernel_rfl)) (fun _ _ _ h => h) (Or.inl ⟨by rfl, ?_⟩) ?_ ?_
     ·(intro w'; go_simp; first | done | with_reducible rfl | rfl)
     rotate_left
     ·(simp only [Act.put,zA,zB,zC,i64_w,i32_w]; rfl)
     refine pure_ (i := 28) (N := some 161) (v := .string (strOfNums (le 2 (p3.size : Int) ++ bytesOf p3))) (a' := ?_) #[tt,ff,ff,ff,ff,ff,ff,ff,ff,ff,ff,ff,ff,ff,ff,ff,ff,ff,ff,ff,ff,ff,ff,ff,ff,ff,ff,ff,tt,ff,ff] rfl rfl (any_of HT_.out (by kernel_rfl)) (fun _ _ _ h => h) (Or.inl ⟨by rfl, ?_⟩) ?_ ?_
     ·(intro w'; go_simp; first | done | with_reducible rfl | rfl)
     rotate_left
     ·(simp only [Act.put,zA,zB,zC,i64_w,i32_w]; rfl)
     refine pure_ (i := 1) (N := some 134) (v := .pointer (some ⟨g1, 13, none⟩)) (a' := ?_) #[tt,tt,ff,ff,ff,ff,ff,ff,ff,ff,ff,ff,ff,ff,ff,ff,ff,ff,ff,ff,ff,ff,ff,ff,ff,ff,ff,ff,tt,ff,ff] rfl rfl (any_of HT_.out (by kernel_rfl)) (fun _ _ _ h => h) (Or.inl ⟨by rfl, ?_⟩) ?_ ?_
     ·(intro w'; go_simp; first | done | with_reducible rfl | rfl)
     rotate_left
     ·(simp only [Act.put,zA,zB,zC,i64_w,i32_w]; rfl)
     refine pure_ (i := 3) (N := some 136) (v := .int .i64 (j : Int)) (a' := ?_) #[tt,tt,ff,tt,ff,ff,ff,ff,ff,ff,ff,ff,ff,ff,ff,ff,ff,ff,ff,ff,ff,ff,ff,ff,ff,ff,ff,ff,tt,ff,ff] rfl rfl (any_of HT_.out (by kernel_rfl)) (fun _ _ _ h => h) (Or.inl ⟨by rfl, ?_⟩) ?_ ?_
     ·(intro w'; go_simp; first | done | with_reducible rfl | rfl)
     rotate_left
     ·(simp only [Act.put,zA,zB,zC,i64_w,i32_w]; rfl)
     refine pure_ (i := 9) (N := some 142) (v := .pointer (some ⟨g1, 13, none⟩)) (a' := ?_) #[tt,tt,ff,tt,ff,ff,ff,ff,ff,tt,ff,ff,ff,ff,ff,ff,ff,ff,ff,ff,ff,ff,ff,ff,ff,ff,ff,ff,tt,ff,ff] rfl rfl (any_of HT_.out (by kernel_rfl)) (fun _ _ _ h => h) (Or.inl ⟨by rfl, ?_⟩) ?_ ?_
     ·(intro w'; go_simp; first | done | with_reducible rfl | rfl)
     rotate_left
     ·(simp only [Act.put,zA,zB,zC,i64_w,i32_w]; rfl)
     refine pure_ (i := 11) (N := some 144) (v := .int .i64 (j : Int)) (a' := ?_) #[tt,tt,ff,tt,ff,ff,ff,ff,ff,tt,ff,tt,ff,ff,ff,ff,ff,ff,ff,ff,ff,ff,ff,ff,ff,ff,ff,ff,tt,ff,ff] rfl rfl (any_of HT_.out (by kernel_rfl)) (fun _ _ _ h => h) (Or.inl ⟨by rfl, ?_⟩) ?_ ?_
     ·(intro w'; go_simp; first | done | with_reducible rfl | rfl)
     rotate_left
     ·(simp only [Act.put,zA,zB,zC,i64_w,i32_w]; rfl)
     refine pure_ (i := 19) (N := some 152) (v := .pointer (some ⟨g1, 13, none⟩)) (a' := ?_) #[tt,tt,ff,tt,ff,ff,ff,ff,ff,tt,ff,tt,ff,ff,ff,ff,ff,ff,ff,tt,ff,ff,ff,ff,ff,ff,ff,ff,tt,ff,ff] rfl rfl (any_of HT_.out (by kernel_rfl)) (fun _ _ _ h => h) (Or.inl ⟨by rfl, ?_⟩) ?_ ?_
     ·(intro w'; go_simp; first | done | with_reducible rfl | rfl)
     rotate_left
     ·(simp only [Act.put,zA,zB,zC,i64_w,i32_w]; rfl)
     refine pure_ (i := 21) (N := some 154) (v := .int .i64 (j : Int)) (a' := ?_) #[tt,tt,ff,tt,ff,ff,ff,ff,ff,tt,ff,tt,ff,ff,ff,ff,ff,ff,ff,tt,ff,tt,ff,ff,ff,ff,ff,ff,tt,ff,ff] rfl rfl (any_of HT_.out (by kernel_rfl)) (fun _ _ _ h => h) (Or.inl ⟨by rfl, ?_⟩) ?_ ?_
     ·(intro w'; go_simp; first | done | with_reducible rfl | rfl)
     rotate_left
     ·(simp only [Act.put,zA,zB,zC,i64_w,i32_w]; rfl)
     refine take_ (i := 2) (N := some 135) (v := .slice (some ad) l13.length c13) (a' := ?_) #[tt,tt,tt,tt,ff,ff,ff,ff,ff,tt,ff,tt,ff,ff,ff,ff,ff,ff,ff,tt,ff,tt,ff,ff,ff,ff,ff,ff,tt,ff,ff] rfl rfl (take_ofW HT_.out HW_.out (by kernel_rfl)) (fun _ _ _ h => h) (Or.inl ⟨by rfl, ?_⟩) hHeld ?_ ?_
     ·(intro w' s0; have xq := (blk_cell (blk_below K1d.out s0) 13).trans rfl; go_simp; first | done | with_reducible rfl | rfl)
     rotate_left
     ·(simp only [Act.put,zA,zB,zC,i64_w,i32_w]; rfl)
     refine pure_ (i := 4) (N := some 137) (v:=?_) (a':=?_) #[tt,tt,tt,tt,tt,ff,ff,ff,ff,tt,ff,tt,ff,ff,ff,ff,ff,ff,ff,tt,ff,tt,ff,ff,ff,ff,ff,ff,tt,ff,ff] rfl rfl (any_of HT_.out (by kernel_rfl)) (fun _ _ _ h => h) (Or.inl ⟨by rfl, ?_⟩) ?_ ?_
     rotate_left
     ·(intro w'; go_simp; first | done | with_reducible rfl | rfl)
     rotate_left
     ·(simp only [Act.put,zA,zB,zC,i64_w,i32_w]; rfl)
     refine pure_ (i := 5) (N := some 138) (v:=?_) (a':=?_) #[tt,tt,tt,tt,tt,tt,ff,ff,ff,tt,ff,tt,ff,ff,ff,ff,ff,ff,ff,tt,ff,tt,ff,ff,ff,ff,ff,ff,tt,ff,ff] rfl rfl (any_of HT_.out (by kernel_rfl)) (fun _ _ _ h => h) (Or.inl ⟨by rfl, ?_⟩) ?_ ?_
     rotate_left
     ·(intro w'; go_simp; first | done | with_reducible rfl | rfl)
     rotate_left
     ·(simp only [Act.put,zA,zB,zC,i64_w,i32_w]; rfl)
     refine take_ (i := 6) (N := some 139) (v := .int .u64 p0) (a' := ?_) #[tt,tt,tt,tt,tt,tt,tt,ff,ff,tt,ff,tt,ff,ff,ff,ff,ff,ff,ff,tt,ff,tt,ff,ff,ff,ff,ff,ff,tt,ff,ff] rfl rfl (take_ofW HT_.out HW_.out (by kernel_rfl)) (fun _ _ _ h => h) (Or.inl ⟨by rfl, ?_⟩) hHeld ?_ ?_
     ·(intro w' s0; have xq := (s0.cell (World.block_lt_of_cell? _ _ E0.out)).trans E0.out; go_simp; first | done | with_reducible rfl | rfl)
     rotate_left
     ·(simp only [Act.put,zA,zB,zC,i64_w,i32_w]; rfl)
     refine take_ (i := 10) (N := some 143) (v := .slice (some ad) l13.length c13) (a' := ?_) #[tt,tt,tt,tt,tt,tt,tt,ff,ff,tt,tt,tt,ff,ff,ff,ff,ff,ff,ff,tt,ff,tt,ff,ff,ff,ff,ff,ff,tt,ff,ff] rfl rfl (take_ofW HT_.out HW_.out (by kernel_rfl)) (fun _ _ _ h => h) (Or.inl ⟨by rfl, ?_⟩) hHeld ?_ ?_
     ·(intro w' s0; have xq := (blk_cell (blk_below K1d.out s0) 13).trans rfl; go_simp; first | done | with_reducible rfl | rfl)
     rotate_left
     ·(simp only [Act.put,zA,zB,zC,i64_w,i32_w]; rfl)
     refine pure_ (i := 12) (N := some 145) (v:=?_) (a':=?_) #[tt,tt,tt,tt,tt,tt,tt,ff,ff,tt,tt,tt,tt,ff,ff,ff,ff,ff,ff,tt,ff,tt,ff,ff,ff,ff,ff,ff,tt,ff,ff] rfl rfl (any_of HT_.out (by kernel_rfl)) (fun _ _ _ h => h) (Or.inl ⟨by rfl, ?_⟩) ?_ ?_
     rotate_left
     ·(intro w'; go_simp; first | done | with_reducible rfl | rfl)
     rotate_left
     ·(simp only [Act.put,zA,zB,zC,i64_w,i32_w]; rfl)
     refine pure_ (i := 13) (N := some 146) (v:=?_) (a':=?_) #[tt,tt,tt,tt,tt,tt,tt,ff,ff,tt,tt,tt,tt,tt,ff,ff,ff,ff,ff,tt,ff,tt,ff,ff,ff,ff,ff,ff,tt,ff,ff] rfl rfl (any_of HT_.out (by kernel_rfl)) (fun _ _ _ h => h) (Or.inl ⟨by rfl, ?_⟩) ?_ ?_
     rotate_left
     ·(intro w'; go_simp; first | done | with_reducible rfl | rfl)
     rotate_left
     ·(simp only [Act.put,zA,zB,zC,i64_w,i32_w]; rfl)
     refine pure_ (i := 14) (N := some 147) (v:=?_) (a':=?_) #[tt,tt,tt,tt,tt,tt,tt,ff,ff,tt,tt,tt,tt,tt,tt,ff,ff,ff,ff,tt,ff,tt,ff,ff,ff,ff,ff,ff,tt,ff,ff] rfl rfl (any_of HT_.out (by kernel_rfl)) (fun _ _ _ h => h) (Or.inl ⟨by rfl, ?_⟩) ?_ ?_
     rotate_left
     ·(intro w'; go_simp; first | done | with_reducible rfl | rfl)
     rotate_left
     ·(simp only [Act.put,zA,zB,zC,i64_w,i32_w]; rfl)
     refine take_ (i := 15) (N := some 148) (v := .int .i64 p1) (a' := ?_) #[tt,tt,tt,tt,tt,tt,tt,ff,ff,tt,tt,tt,tt,tt,tt,tt,ff,ff,ff,tt,ff,tt,ff,ff,ff,ff,ff,ff,tt,ff,ff] rfl rfl (take_ofW HT_.out HW_.out (by kernel_rfl)) (fun _ _ _ h => h) (Or.inl ⟨by rfl, ?_⟩) hHeld ?_ ?_
     ·(intro w' s0; have xq := (s0.cell (World.block_lt_of_cell? _ _ E1.out)).trans E1.out; go_simp; first | done | with_reducible rfl | rfl)
     rotate_left
     ·(simp only [Act.put,zA,zB,zC,i64_w,i32_w]; rfl)
     refine pure_ (i := 16) (N := some 149) (v := .int .u64 p1) (a' := ?_) #[tt,tt,tt,tt,tt,tt,tt,ff,ff,tt,tt,tt,tt,tt,tt,tt,tt,ff,ff,tt,ff,tt,ff,ff,ff,ff,ff,ff,tt,ff,ff] rfl rfl (any_of HT_.out (by kernel_rfl)) (fun _ _ _ h => h) (Or.inl ⟨by rfl, ?_⟩) ?_ ?_
     ·(intro w'; go_simp; first | done | rfl | simp [Hp1w.out])
     rotate_left
     ·(simp only [Act.put,zA,zB,zC,i64_w,i32_w]; rfl)
     refine take_ (i := 20) (N := some 153) (v := .slice (some ad) l13.length c13) (a' := ?_) #[tt,tt,tt,tt,tt,tt,tt,ff,ff,tt,tt,tt,tt,tt,tt,tt,tt,ff,ff,tt,tt,tt,ff,ff,ff,ff,ff,ff,tt,ff,ff] rfl rfl (take_ofW HT_.out HW_.out (by kernel_rfl)) (fun _ _ _ h => h) (Or.inl ⟨by rfl, ?_⟩) hHeld ?_ ?_
     ·(intro w' s0; have xq := (blk_cell (blk_below K1d.out s0) 13).trans rfl; go_simp; first | done | with_reducible rfl | rfl)
     rotate_left
     ·(simp only [Act.put,zA,zB,zC,i64_w,i32_w]; rfl)
     refine pure_ (i := 22) (N := some 155) (v:=?_) (a':=?_) #[tt,tt,tt,tt,tt,tt,tt,ff,ff,tt,tt,tt,tt,tt,tt,tt,tt,ff,ff,tt,tt,tt,tt,ff,ff,ff,ff,ff,tt,ff,ff] rfl rfl (any_of HT_.out (by kernel_rfl)) (fun _ _ _ h => h) (Or.inl ⟨by rfl, ?_⟩) ?_ ?_
     rotate_left
     ·(intro w'; go_simp; first | done | with_reducible rfl | rfl)
     rotate_left
     ·(simp only [Act.put,zA,zB,zC,i64_w,i32_w]; rfl)
     refine pure_ (i := 23) (N := some 156) (v:=?_) (a':=?_) #[tt,tt,tt,tt,tt,tt,tt,ff,ff,tt,tt,tt,tt,tt,tt,tt,tt,ff,ff,tt,tt,tt,tt,tt,ff,ff,ff,ff,tt,ff,ff] rfl rfl (any_of HT_.out (by kernel_rfl)) (fun _ _ _ h => h) (Or.inl ⟨by rfl, ?_⟩) ?_ ?_
     rotate_left
     ·(intro w'; go_simp; first | done | with_reducible rfl | rfl)
     rotate_left
     ·(simp only [Act.put,zA,zB,zC,i64_w,i32_w]; rfl)
     refine pure_ (i := 24) (N := some 157) (v:=?_) (a':=?_) #[tt,tt,tt,tt,tt,tt,tt,ff,ff,tt,tt,tt,tt,tt,tt,tt,tt,ff,ff,tt,tt,tt,tt,tt,tt,ff,ff,ff,tt,ff,ff] rfl rfl (any_of HT_.out (by kernel_rfl)) (fun _ _ _ h => h) (Or.inl ⟨by rfl, ?_⟩) ?_ ?_
     rotate_left
     ·(intro w'; go_simp; first | done | with_reducible rfl | rfl)
     rotate_left
     ·(simp only [Act.put,zA,zB,zC,i64_w,i32_w]; rfl)
     refine take_ (i := 25) (N := some 158) (v := .int .u64 p2) (a' := ?_) #[tt,tt,tt,tt,tt,tt,tt,ff,ff,tt,tt,tt,tt,tt,tt,tt,tt,ff,ff,tt,tt,tt,tt,tt,tt,tt,ff,ff,tt,ff,ff] rfl rfl (take_ofW HT_.out HW_.out (by kernel_rfl)) (fun _ _ _ h => h) (Or.inl ⟨by rfl, ?_⟩) hHeld ?_ ?_
     ·(intro w' s0; have xq := (s0.cell (World.block_lt_of_cell? _ _ E2.out)).trans E2.out; go_simp; first | done | with_reducible rfl | rfl)
     rotate_left
     ·(simp only [Act.put,zA,zB,zC,i64_w,i32_w]; rfl)
     refine one_ (i := 7) (N := some 140) #[tt,tt,tt,tt,tt,tt,tt,tt,ff,tt,tt,tt,tt,tt,tt,tt,tt,ff,ff,tt,tt,tt,tt,tt,tt,tt,ff,ff,tt,ff,ff] rfl rfl (one_of HT_.out (by kernel_rfl)) (by decide) (fun K hK => ?_)
     refine goes_ Try.func63 (by kernel_rfl) rfl #[.int .u64 p0, .int .i64 8] (by rfl) rfl rfl (by (try simp only [List.map_toArray, List.map_cons, List.map_nil]); first | done | rfl) ?_
     refine (put8 p0 Hp0.out.1 Hp0.out.2 _).mono ?_
     rintro e w' ⟨rfl, hb⟩
     have hHe := below_step hHeld hb
     clear hHeld hb
     refine ⟨_, rfl, ?_⟩
     refine hK _ _ hHe (fun hHeld => ?_)
     clear hK K hHe
     refine norm_ (a' := ?_) ?_ ?_
     rotate_left
     ·(show Act.put _ (some 140) _ = _; simp only [Act.put,zA,zB,zC,i64_w,i32_w]; rfl)
     refine pure_ (i := 8) (N := some 141) (v := .string (strOfNums (L ++ le 8 p0))) (a' := ?_) #[tt,tt,tt,tt,tt,tt,tt,tt,tt,tt,tt,tt,tt,tt,tt,tt,tt,ff,ff,tt,tt,tt,tt,tt,tt,tt,ff,ff,tt,ff,ff] rfl rfl (any_of HT_.out (by kernel_rfl)) (fun _ _ _ h => h) (Or.inl ⟨by rfl, ?_⟩) ?_ ?_
     ·(intro w'; exact cat_run rfl (by kernel_rfl) (by kernel_rfl) (by simp only [List.length_append, le_length]; omega))
     rotate_left
     ·(simp only [Act.put,zA,zB,zC,i64_w,i32_w]; rfl)
     refine one_ (i := 17) (N := some 150) #[tt,tt,tt,tt,tt,tt,tt,tt,tt,tt,tt,tt,tt,tt,tt,tt,tt,tt,ff,tt,tt,tt,tt,tt,tt,tt,ff,ff,tt,ff,ff] rfl rfl (one_of HT_.out (by kernel_rfl)) (by decide) (fun K hK => ?_)
     refine goes_ Try.func63 (by kernel_rfl) rfl #[.int .u64 p1, .int .i64 1] (by rfl) rfl rfl (by (try simp only [List.map_toArray, List.map_cons, List.map_nil]); first | done | rfl) ?_
     refine (put1 p1 Hp1.out.1 Hp1.out.2 _).mono ?_
     rintro e w' ⟨rfl, hb⟩
     have hHe := below_step hHeld hb
     clear hHeld hb
     refine ⟨_, rfl, ?_⟩
     refine hK _ _ hHe (fun hHeld => ?_)
     clear hK K hHe
     refine norm_ (a' := ?_) ?_ ?_
     rotate_left
     ·(show Act.put _ (some 150) _ = _; simp only [Act.put,zA,zB,zC,i64_w,i32_w]; rfl)
     refine pure_ (i := 18) (N := some 151) (v := .string (strOfNums ((L ++ le 8 p0) ++ le 1 p1))) (a' := ?_) #[tt,tt,tt,tt,tt,tt,tt,tt,tt,tt,tt,tt,tt,tt,tt,tt,tt,tt,tt,tt,tt,tt,tt,tt,tt,tt,ff,ff,tt,ff,ff] rfl rfl (any_of HT_.out (by kernel_rfl)) (fun _ _ _ h => h) (Or.inl ⟨by rfl, ?_⟩) ?_ ?_
     ·(intro w'; exact cat_run rfl (by kernel_rfl) (by kernel_rfl) (by simp only [List.length_append, le_length]; omega))
     rotate_left
     ·(simp only [Act.put,zA,zB,zC,i64_w,i32_w]; rfl)
     refine one_ (i := 26) (N := some 159) #[tt,tt,tt,tt,tt,tt,tt,tt,tt,tt,tt,tt,tt,tt,tt,tt,tt,tt,tt,tt,tt,tt,tt,tt,tt,tt,tt,ff,tt,ff,ff] rfl rfl (one_of HT_.out (by kernel_rfl)) (by decide) (fun K hK => ?_)
     refine goes_ Try.func63 (by kernel_rfl) rfl #[.int .u64 p2, .int .i64 8] (by rfl) rfl rfl (by (try simp only [List.map_toArray, List.map_cons, List.map_nil]); first | done | rfl) ?_
     refine (put8 p2 Hp2.out.1 Hp2.out.2 _).mono ?_
     rintro e w' ⟨rfl, hb⟩
     have hHe := below_step hHeld hb
     clear hHeld hb
     refine ⟨_, rfl, ?_⟩
     refine hK _ _ hHe (fun hHeld => ?_)
     clear hK K hHe
     refine norm_ (a' := ?_) ?_ ?_
     rotate_left
     ·(show Act.put _ (some 159) _ = _; simp only [Act.put,zA,zB,zC,i64_w,i32_w]; rfl)
     refine pure_ (i := 27) (N := some 160) (v := .string (strOfNums (((L ++ le 8 p0) ++ le 1 p1) ++ le 8 p2))) (a' := ?_) #[tt,tt,tt,tt,tt,tt,tt,tt,tt,tt,tt,tt,tt,tt,tt,tt,tt,tt,tt,tt,tt,tt,tt,tt,tt,tt,tt,tt,tt,ff,ff] rfl rfl (any_of HT_.out (by kernel_rfl)) (fun _ _ _ h => h) (Or.inl ⟨by rfl, ?_⟩) ?_ ?_
     ·(intro w'; exact cat_run rfl (by kernel_rfl) (by kernel_rfl) (by simp only [List.length_append, le_length]; omega))
     rotate_left
     ·(simp only [Act.put,zA,zB,zC,i64_w,i32_w]; rfl)
     refine pure_ (i := 29) (N := some 162) (v := .string (strOfNums ((((L ++ le 8 p0) ++ le 1 p1) ++ le 8 p2) ++ (le 2 (p3.size : Int) ++ bytesOf p3)))) (a' := ?_) #[tt,tt,tt,tt,tt,tt,tt,tt,tt,tt,tt,tt,tt,tt,tt,tt,tt,tt,tt,tt,tt,tt,tt,tt,tt,tt,tt,tt,tt,tt,ff] rfl rfl (any_of HT_.out (by kernel_rfl)) (fun _ _ _ h => h) (Or.inl ⟨by rfl, ?_⟩) ?_ ?_
     ·(intro w'; exact cat_run rfl (by kernel_rfl) (by kernel_rfl) (by simp only [List.length_append, le_length]; omega))
     rotate_left
     ·(simp only [Act.put,zA,zB,zC,i64_w,i32_w]; rfl)
     refine pure_ (i := 30) (N := some 4) (v := .string (strOfNums ((((L ++ le 8 p0) ++ le 1 p1) ++ le 8 p2) ++ (le 2 (p3.size : Int) ++ bytesOf p3)))) (a' := ?_) #[tt,tt,tt,tt,tt,tt,tt,tt,tt,tt,tt,tt,tt,tt,tt,tt,tt,tt,tt,tt,tt,tt,tt,tt,tt,tt,tt,tt,tt,tt,tt] rfl rfl (any_of HT_.out (by kernel_rfl)) (fun _ _ _ h => h) (Or.inl ⟨by rfl, ?_⟩) ?_ ?_
     ·(intro w'; go_simp; first | done | with_reducible rfl | rfl)
     rotate_left
     ·(simp only [Act.put,zA,zB,zC,i64_w,i32_w]; rfl)
     refine done_ (done_of HT_.out (by kernel_rfl)) ?_
     have B13 := Aside0.mk (below_step BD.out hHeld)
     have K13 := Aside0.mk (blk_below K1d.out hHeld)
     have V13 := Aside0.mk (below_step BV.out hHeld)
     have HLL : Aside0 (((((L ++ le 8 p0) ++ le 1 p1) ++ le 8 p2) ++ (le 2 (p3.size : Int) ++ bytesOf p3)) = N ++ (l13.take (j + 1)).flatMap encQ) := ⟨by rw [HT.out, HL.out]; simp only [encQ, encP, from90, List.append_assoc]⟩
     rw [HLL.out]
     clear HT_ HW_ hHeld
     go_wp2
     go_roundw
     case rel => exact ⟨j + 1, rfl, by go_num, ⟨hlt⟩, K13, V13, B13⟩
     case measure => simp [intOf]; omega
    ·have hjn : j = l13.length := by have := hj.out; omega
     obtain ⟨M2, hM2⟩ : ∃ M, M = N ++ l13.flatMap encQ := ⟨_, rfl⟩
     have hnM2 : M2.length ≤ 1000 := by
      have := len_encQ l13 (fun q hq => (hu13 q hq).2.2.2)
      rw [hM2, List.length_append]; omega
     rw [hjn, List.take_length, ← hM2]
     have HM2 := Aside0.mk hM2
     have hlt' : ¬ (j : Int) < (l13.length : Int) := by omega
     rw [hjn] at hlt'
     clear hM2 hlt hj
     obtain ⟨sM, hsM⟩ : ∃ s, s = strOfNums M2 := ⟨_, rfl⟩
     obtain ⟨sP, hsP⟩ : ∃ s, s = strOfNums (le 1 (l14.length : Int)) := ⟨_, rfl⟩
     have hcat : ¬ 9223372036854775807 < sM.size + sP.size := by rw [hsM, hsP, strOfNums_size, strOfNums_size, le_length]; omega
     rw [← hsM]
     have HsM := Aside0.mk hsM
     have HsP := Aside0.mk hsP
     have hw14 := Hl14w.out
     clear hsM hsP
     go_upto_region 15 with (go_at_call 63; (try rw [hw14]); refine (put1 (l14.length : Int) Hl14.out.1 Hl14.out.2 _).mono ?_; rintro e wp ⟨rfl, hb⟩; rw [← HsP.out]; have HB14 := Aside0.mk hb; clear hb)
     have hO : sM ++ sP = strOfNums (M2 ++ le 1 (l14.length : Int)) := by rw [HsM.out, HsP.out, str_app]
     obtain ⟨O, hOe⟩ : ∃ O, O = M2 ++ le 1 (l14.length : Int) := ⟨_, rfl⟩
     rw [hO, ← hOe]
     have hnO : O.length ≤ 1001 := by rw [hOe, List.length_append, le_length]; omega
     have HOe := Aside0.mk hOe
     have K14 := Aside0.mk (blk_below KAr.out HB14.out)
     have V14 := Aside0.mk (below_step HBd.out HB14.out)
     have B14 := Aside0.mk (below_step HBw.out HB14.out)
     have hlen14 : (l14.length : Int) ≤ 9223372036854775807 := by omega
     clear hO hOe hw14 hcat HsM HsP xa KAr HBd HBw HB14
     go_wp2
     go_loopw [4, 9] (fun v i wr => ∃ j : Nat, v = .string (strOfNums (O ++ (l14.take j).flatMap encX)) ∧ i = .int .i64 j ∧ Aside0 (j ≤ l14.length) ∧ Aside0 (wr.heap[g1]? = some (.cells #[.int .i64 a0, .int .i64 a1, .int .i64 a2, .int .u64 a3, .int .i64 a4, .slice A5 l5.length c5, .int .u64 a6, .int .u64 a7, .int .u64 a8, .int .u64 a9, .int .u64 a10, .int .u64 a11, .int .u64 a12, .slice A13 l13.length c13, .slice A14 l14.length c14, .float .f64 a15] 38 (0, 0))) ∧ Aside0 (Below wd.heap.size wd wr) ∧ Aside0 (Below w.heap.size w wr))
      (fun _ i _ => l14.length - (intOf i).toNat)
     case atStart => exact ⟨0, by simp, rfl, ⟨Nat.zero_le _⟩, K14, V14, B14⟩
     case round =>
      obtain ⟨j, rfl, rfl, hj, KAr, HBd, HBw⟩ := hrel
      clear K14 V14 B14
      have xa := fun i => blk_cell KAr.out i
      by_cases hlt : j < l14.length
      ·obtain ⟨ad, e, hy0, hy1⟩ := at_T77 (Kd.C_below H14d.out HBd.out) (j : Int) (by omega) (by omega)
       simp only [Int.toNat_natCast] at hy0 hy1
       obtain rfl := e
       have HR := Aside0.mk (hu14 l14[j] (List.getElem_mem hlt))
       have HT : Aside0 ((l14.take (j + 1)).flatMap encX = (l14.take j).flatMap encX ++ encX (rd_T77 l14 (j : Int))) := ⟨by rw [rd77q l14 j hlt, List.take_succ_eq_append_getElem hlt, List.flatMap_append]; simp⟩
       rw [← rd77q l14 j hlt] at HR
       generalize rd_T77 l14 (j : Int) = p at hy0 hy1 HR HT
       obtain ⟨p0, p1⟩ := p
       dsimp only at hy0 hy1 HR
       have Hp0 := Aside0.mk HR.out.1
       have Hp1 := Aside0.mk HR.out.2
       have E0 : Aside0 (wr.drew.cell? _ = _) := ⟨hy0⟩
       have E1 : Aside0 (wr.drew.cell? _ = _) := ⟨hy1⟩
       have hlti : (j : Int) < (l14.length : Int) := by omega
       have hLn : (O ++ (l14.take j).flatMap encX).length ≤ 2000 := by rw [List.length_append, Go.Proofs.Ytondgoabnmgcaaa.Pure.len_encX, List.length_take]; omega
       obtain ⟨L, hL⟩ : ∃ L, L = O ++ (l14.take j).flatMap encX := ⟨_, rfl⟩
       rw [← hL] at hLn ⊢
       have HL := Aside0.mk hL
       clear hy0 hy1 hL
       go_upto_region 18 with (fail)
       refine start_ (n := 18) (S := fun w' => Below wr.drew.heap.size wr.drew w') (ds := []) #[ff,ff,ff,ff,ff,ff,ff,ff,ff,ff,ff,ff,ff,ff,ff,ff,ff,ff] (by kernel_rfl) rfl rfl (Below.refl _ _) (fun hHeld => ?_)
       have K1d := Aside0.mk (blk_drew KAr.out)
       have BD := Aside0.mk (below_drew1 HBw.out)
       have BV := Aside0.mk (below_drew1 HBd.out)
       generalize wr.drew = we at K1d BD BV E0 E1 hHeld ⊢
       refine with_tabW renc18_tab renc18_bits (fun HT_ HW_ => ?_)
       refine pure_ (i := 0) (N := some 177) (v := .string (strOfNums L)) (a' := ?_) #[tt,ff,ff,ff,ff,ff,ff,ff,ff,ff,ff,ff,ff,ff,ff,ff,ff,ff] rfl rfl (any_of HT_.out (by kernel_rfl)) (fun _ _ _ h => h) (Or.inl ⟨by rfl, ?_⟩) ?_ ?_
       ·(intro w'; go_simp; first | done | with_reducible rfl | rfl)
       rotate_left
       ·(simp only [Act.put,zA,zB,zC,i64_w,i32_w]; rfl)
       refine pure_ (i := 1) (N := some 178) (v := .pointer (some ⟨g1, 14, none⟩)) (a' := ?_) #[tt,tt,ff,ff,ff,ff,ff,ff,ff,ff,ff,ff,ff,ff,ff,ff,ff,ff] rfl rfl (any_of HT_.out (by kernel_rfl)) (fun _ _ _ h => h) (Or.inl ⟨by rfl, ?_⟩) ?_ ?_
       ·(intro w'; go_simp; first | done | with_reducible rfl | rfl)
       rotate_left
       ·(simp only [Act.put,zA,zB,zC,i64_w,i32_w]; rfl)
       refine pure_ (i := 3) (N := some 180) (v := .int .i64 (j : Int)) (a' := ?_) #[tt,tt,ff,tt,ff,ff,ff,ff,ff,ff,ff,ff,ff,ff,ff,ff,ff,ff] rfl rfl (any_of HT_.out (by kernel_rfl)) (fun _ _ _ h => h) (Or.inl ⟨by rfl, ?_⟩) ?_ ?_
       ·(intro w'; go_simp; first | done | with_reducible rfl | rfl)
       rotate_left
       ·(simp only [Act.put,zA,zB,zC,i64_w,i32_w]; rfl)
       refine pure_ (i := 9) (N := some 186) (v := .pointer (some ⟨g1, 14, none⟩)) (a' := ?_) #[tt,tt,ff,tt,ff,ff,ff,ff,ff,tt,ff,ff,ff,ff,ff,ff,ff,ff] rfl rfl (any_of HT_.out (by kernel_rfl)) (fun _ _ _ h => h) (Or.inl ⟨by rfl, ?_⟩) ?_ ?_
       ·(intro w'; go_simp; first | done | with_reducible rfl | rfl)
       rotate_left
       ·(simp only [Act.put,zA,zB,zC,i64_w,i32_w]; rfl)
       refine pure_ (i := 11) (N := some 188) (v := .int .i64 (j : Int)) (a' := ?_) #[tt,tt,ff,tt,ff,ff,ff,ff,ff,tt,ff,tt,ff,ff,ff,ff,ff,ff] rfl rfl (any_of HT_.out (by kernel_rfl)) (fun _ _ _ h => h) (Or.inl ⟨by rfl, ?_⟩) ?_ ?_
       ·(intro w'; go_simp; first | done | with_reducible rfl | rfl)
       rotate_left
       ·(simp only [Act.put,zA,zB,zC,i64_w,i32_w]; rfl)
       refine take_ (i := 2) (N := some 179) (v := .slice (some ad) l14.length c14) (a' := ?_) #[tt,tt,tt,tt,ff,ff,ff,ff,ff,tt,ff,tt,ff,ff,ff,ff,ff,ff] rfl rfl (take_ofW HT_.out HW_.out (by kernel_rfl)) (fun _ _ _ h => h) (Or.inl ⟨by rfl, ?_⟩) hHeld ?_ ?_
       ·(intro w' s0; have xq := (blk_cell (blk_below K1d.out s0) 14).trans rfl; go_simp; first | done | with_reducible rfl | rfl)
       rotate_left
       ·(simp only [Act.put,zA,zB,zC,i64_w,i32_w]; rfl)
       refine pure_ (i := 4) (N := some 181) (v:=?_) (a':=?_) #[tt,tt,tt,tt,tt,ff,ff,ff,ff,tt,ff,tt,ff,ff,ff,ff,ff,ff] rfl rfl (any_of HT_.out (by kernel_rfl)) (fun _ _ _ h => h) (Or.inl ⟨by rfl, ?_⟩) ?_ ?_
       rotate_left
       ·(intro w'; go_simp; first | done | with_reducible rfl | rfl)
       rotate_left
       ·(simp only [Act.put,zA,zB,zC,i64_w,i32_w]; rfl)
       refine pure_ (i := 5) (N := some 182) (v:=?_) (a':=?_) #[tt,tt,tt,tt,tt,tt,ff,ff,ff,tt,ff,tt,ff,ff,ff,ff,ff,ff] rfl rfl (any_of HT_.out (by kernel_rfl)) (fun _ _ _ h => h) (Or.inl ⟨by rfl, ?_⟩) ?_ ?_
       rotate_left
       ·(intro w'; go_simp; first | done | with_reducible rfl | rfl)
       rotate_left
       ·(simp only [Act.put,zA,zB,zC,i64_w,i32_w]; rfl)
       refine take_ (i := 6) (N := some 183) (v := .int .u64 p0) (a' := ?_) #[tt,tt,tt,tt,tt,tt,tt,ff,ff,tt,ff,tt,ff,ff,ff,ff,ff,ff] rfl rfl (take_ofW HT_.out HW_.out (by kernel_rfl)) (fun _ _ _ h => h) (Or.inl ⟨by rfl, ?_⟩) hHeld ?_ ?_
       ·(intro w' s0; have xq := (s0.cell (World.block_lt_of_cell? _ _ E0.out)).trans E0.out; go_simp; first | done | with_reducible rfl | rfl)
       rotate_left
       ·(simp only [Act.put,zA,zB,zC,i64_w,i32_w]; rfl)
       refine take_ (i := 10) (N := some 187) (v := .slice (some ad) l14.length c14) (a' := ?_) #[tt,tt,tt,tt,tt,tt,tt,ff,ff,tt,tt,tt,ff,ff,ff,ff,ff,ff] rfl rfl (take_ofW HT_.out HW_.out (by kernel_rfl)) (fun _ _ _ h => h) (Or.inl ⟨by rfl, ?_⟩) hHeld ?_ ?_
       ·(intro w' s0; have xq := (blk_cell (blk_below K1d.out s0) 14).trans rfl; go_simp; first | done | with_reducible rfl | rfl)
       rotate_left
       ·(simp only [Act.put,zA,zB,zC,i64_w,i32_w]; rfl)
       refine pure_ (i := 12) (N := some 189) (v:=?_) (a':=?_) #[tt,tt,tt,tt,tt,tt,tt,ff,ff,tt,tt,tt,tt,ff,ff,ff,ff,ff] rfl rfl (any_of HT_.out (by kernel_rfl)) (fun _ _ _ h => h) (Or.inl ⟨by rfl, ?_⟩) ?_ ?_
       rotate_left
       ·(intro w'; go_simp; first | done | with_reducible rfl | rfl)
       rotate_left
       ·(simp only [Act.put,zA,zB,zC,i64_w,i32_w]; rfl)
       refine pure_ (i := 13) (N := some 190) (v:=?_) (a':=?_) #[tt,tt,tt,tt,tt,tt,tt,ff,ff,tt,tt,tt,tt,tt,ff,ff,ff,ff] rfl rfl (any_of HT_.out (by kernel_rfl)) (fun _ _ _ h => h) (Or.inl ⟨by rfl, ?_⟩) ?_ ?_
       rotate_left
       ·(intro w'; go_simp; first | done | with_reducible rfl | rfl)
       rotate_left
       ·(simp only [Act.put,zA,zB,zC,i64_w,i32_w]; rfl)
       refine take_ (i := 14) (N := some 191) (v := .int .u64 p1) (a' := ?_) #[tt,tt,tt,tt,tt,tt,tt,ff,ff,tt,tt,tt,tt,tt,tt,ff,ff,ff] rfl rfl (take_ofW HT_.out HW_.out (by kernel_rfl)) (fun _ _ _ h => h) (Or.inl ⟨by rfl, ?_⟩) hHeld ?_ ?_
       ·(intro w' s0; have xq := (s0.cell (World.block_lt_of_cell? _ _ E1.out)).trans E1.out; go_simp; first | done | with_reducible rfl | rfl)
       rotate_left
       ·(simp only [Act.put,zA,zB,zC,i64_w,i32_w]; rfl)
       refine one_ (i := 7) (N := some 184) #[tt,tt,tt,tt,tt,tt,tt,tt,ff,tt,tt,tt,tt,tt,tt,ff,ff,ff] rfl rfl (one_of HT_.out (by kernel_rfl)) (by decide) (fun K hK => ?_)
       refine goes_ Try.func63 (by kernel_rfl) rfl #[.int .u64 p0, .int .i64 8] (by rfl) rfl rfl (by (try simp only [List.map_toArray, List.map_cons, List.map_nil]); first | done | rfl) ?_
       refine (put8 p0 Hp0.out.1 Hp0.out.2 _).mono ?_
       rintro e w' ⟨rfl, hb⟩
       have hHe := below_step hHeld hb
       clear hHeld hb
       refine ⟨_, rfl, ?_⟩
       refine hK _ _ hHe (fun hHeld => ?_)
       clear hK K hHe
       refine norm_ (a' := ?_) ?_ ?_
       rotate_left
       ·(show Act.put _ (some 184) _ = _; simp only [Act.put,zA,zB,zC,i64_w,i32_w]; rfl)
       refine pure_ (i := 8) (N := some 185) (v := .string (strOfNums (L ++ le 8 p0))) (a' := ?_) #[tt,tt,tt,tt,tt,tt,tt,tt,tt,tt,tt,tt,tt,tt,tt,ff,ff,ff] rfl rfl (any_of HT_.out (by kernel_rfl)) (fun _ _ _ h => h) (Or.inl ⟨by rfl, ?_⟩) ?_ ?_
       ·(intro w'; exact cat_run rfl (by kernel_rfl) (by kernel_rfl) (by simp only [List.length_append, le_length]; omega))
       rotate_left
       ·(simp only [Act.put,zA,zB,zC,i64_w,i32_w]; rfl)
       refine one_ (i := 15) (N := some 192) #[tt,tt,tt,tt,tt,tt,tt,tt,tt,tt,tt,tt,tt,tt,tt,tt,ff,ff] rfl rfl (one_of HT_.out (by kernel_rfl)) (by decide) (fun K hK => ?_)
       refine goes_ Try.func63 (by kernel_rfl) rfl #[.int .u64 p1, .int .i64 8] (by rfl) rfl rfl (by (try simp only [List.map_toArray, List.map_cons, List.map_nil]); first | done | rfl) ?_
       refine (put8 p1 Hp1.out.1 Hp1.out.2 _).mono ?_
       rintro e w' ⟨rfl, hb⟩
       have hHe := below_step hHeld hb
       clear hHeld hb
       refine ⟨_, rfl, ?_⟩
       refine hK _ _ hHe (fun hHeld => ?_)
       clear hK K hHe
       refine norm_ (a' := ?_) ?_ ?_
       rotate_left
       ·(show Act.put _ (some 192) _ = _; simp only [Act.put,zA,zB,zC,i64_w,i32_w]; rfl)
       refine pure_ (i := 16) (N := some 193) (v := .string (strOfNums ((L ++ le 8 p0) ++ le 8 p1))) (a' := ?_) #[tt,tt,tt,tt,tt,tt,tt,tt,tt,tt,tt,tt,tt,tt,tt,tt,tt,ff] rfl rfl (any_of HT_.out (by kernel_rfl)) (fun _ _ _ h => h) (Or.inl ⟨by rfl, ?_⟩) ?_ ?_
       ·(intro w'; exact cat_run rfl (by kernel_rfl) (by kernel_rfl) (by simp only [List.length_append, le_length]; omega))
       rotate_left
       ·(simp only [Act.put,zA,zB,zC,i64_w,i32_w]; rfl)
       refine pure_ (i := 17) (N := some 4) (v := .string (strOfNums ((L ++ le 8 p0) ++ le 8 p1))) (a' := ?_) #[tt,tt,tt,tt,tt,tt,tt,tt,tt,tt,tt,tt,tt,tt,tt,tt,tt,tt] rfl rfl (any_of HT_.out (by kernel_rfl)) (fun _ _ _ h => h) (Or.inl ⟨by rfl, ?_⟩) ?_ ?_
       ·(intro w'; go_simp; first | done | with_reducible rfl | rfl)
       rotate_left
       ·(simp only [Act.put,zA,zB,zC,i64_w,i32_w]; rfl)
       refine done_ (done_of HT_.out (by kernel_rfl)) ?_
       have B18 := Aside0.mk (below_step BD.out hHeld)
       have K18 := Aside0.mk (blk_below K1d.out hHeld)
       have V18 := Aside0.mk (below_step BV.out hHeld)
       have HLL : Aside0 (((L ++ le 8 p0) ++ le 8 p1) = O ++ (l14.take (j + 1)).flatMap encX) := ⟨by rw [HT.out, HL.out]; simp only [encX, List.append_assoc]⟩
       rw [HLL.out]
       clear HT_ HW_ hHeld
       go_wp2
       go_roundw
       case rel => exact ⟨j + 1, rfl, by go_num, ⟨hlt⟩, K18, V18, B18⟩
       case measure => simp [intOf]; omega
      ·have hjn : j = l14.length := by have := hj.out; omega
       obtain ⟨Q, hQ⟩ : ∃ Q, Q = O ++ l14.flatMap encX := ⟨_, rfl⟩
       have hnQ : Q.length ≤ 2000 := by rw [hQ, List.length_append, Go.Proofs.Ytondgoabnmgcaaa.Pure.len_encX]; omega
       rw [hjn, List.take_length, ← hQ]
       have HQ1 := Aside0.mk hQ
       have hlt' : ¬ (j : Int) < (l14.length : Int) := by omega
       rw [hjn] at hlt'
       clear hQ hlt hj
       have HE : Aside0 (strOfNums Q ++ strOfNums (le 8 (rbits a15)) = strOfNums (encL a0 a1 a2 a3 a4 l5 a6 a7 a8 a9 a10 a11 a12 (l13.map from90) l14 a15)) := ⟨by
        rw [str_app]; congr 1
        unfold encL
        rw [HQ1.out, HOe.out, HM2.out, HN.out, HM1.out, HL1.out, List.flatMap_map, List.length_map]
        simp only [List.append_assoc, List.nil_append]
        rfl⟩
       obtain ⟨sQ, hsQ⟩ : ∃ s, s = strOfNums Q := ⟨_, rfl⟩
       obtain ⟨sR, hsR⟩ : ∃ s, s = strOfNums (le 8 (rbits a15)) := ⟨_, rfl⟩
       have hcat : ¬ 9223372036854775807 < sQ.size + sR.size := by rw [hsQ, hsR, strOfNums_size, strOfNums_size, le_length]; omega
       rw [← hsQ, ← hsR] at HE
       rw [← hsQ]
       have HsR := Aside0.mk hsR
       clear hsQ hsR
       have HSL := Aside0.mk hseal
       rw [← HE.out] at HSL
       go_wp2_with (first
        | (go_at_call 65; refine (Go.Proofs.YtondgoabnmgcaaaO.R.refreal_at a15 h15 _).mono ?_; rintro e wq ⟨rfl, hb⟩; rw [← HsR.out]; have B19 := Aside0.mk (below_step HBw.out hb); clear hb)
        | (go_at_call 22; refine (conventicleref02_Seal.calls KS _ RR _ HSL.out).mono ?_; rintro e wq2 ⟨rfl, hb⟩; have B20 := Aside0.mk (below_step B19.out hb); clear hb))
       go_ret2
       exact ⟨rfl, B20.out⟩
set_option maxRecDepth 100000 in
set_option maxHeartbeats 16000000 in
theorem renc_no (a0 a1 a2 a3 a4 : Int) (A5 : Option Addr) (c5 : Nat) (l5 : List S70) (a6 a7 a8 a9 a10 a11 a12 : Int) (A13 : Option Addr) (c13 : Nat) (l13 : List S90) (A14 : Option Addr) (c14 : Nat) (l14 : List S77) (a15 : Nat) (w : World) (hr5 : Kd.C k70 w A5 l5.length l5) (hc5 : l5.length ≤ c5) (hr13 : Kd.C k90 w A13 l13.length l13) (hc13 : l13.length ≤ c13) (hr14 : Kd.C k77 w A14 l14.length l14) (hc14 : l14.length ≤ c14)
  (KM : Nat) (hm : conventicleref15_May.f KM a0 a1 a2 a3 a4 l5 a6 a7 a8 a9 a10 a11 a12 l13 l14 a15 = some false) :
  Calls Try.prog 19 #[.agg #[.int .i64 a0, .int .i64 a1, .int .i64 a2, .int .u64 a3, .int .i64 a4, .slice A5 l5.length c5, .int .u64 a6, .int .u64 a7, .int .u64 a8, .int .u64 a9, .int .u64 a10, .int .u64 a11, .int .u64 a12, .slice A13 l13.length c13, .slice A14 l14.length c14, .float .f64 a15]] w fun e w' => e = .returned (.tuple #[.string ⟨#[]⟩, .int .i64 1]) ∧ Below w.heap.size w w' := by
 have H5 := Aside0.mk hr5
 have H13 := Aside0.mk hr13
 have H14 := Aside0.mk hr14
 have HC5 := Aside0.mk hc5
 have HC13 := Aside0.mk hc13
 have HC14 := Aside0.mk hc14
 have HM := Aside0.mk hm
 have si38 := si38
 clear hr5 hr13 hr14 hc5 hc13 hc14 hm
 go_enter Try.func19, Try.ntmps19
 go_wp2_with (first
  | ((with_reducible refine gate_dst (N := 1) rfl ?_); refine box_event ?hg (N := 1) ?hd (cs := #[.int .i64 a0, .int .i64 a1, .int .i64 a2, .int .u64 a3, .int .i64 a4, .slice A5 l5.length c5, .int .u64 a6, .int .u64 a7, .int .u64 a8, .int .u64 a9, .int .u64 a10, .int .u64 a11, .int .u64 a12, .slice A13 l13.length c13, .slice A14 l14.length c14, .float .f64 a15]) (t := 38) ?hr ?_; (case hd => rfl); (case hg => rfl); (case hr => first | (go_simp; done) | (go_simp; rfl)); intro g1 hg_ w1 hb_ hB_; have K1a := Aside0.mk hb_; have B1a := Aside0.mk hB_; clear hg_ hb_ hB_)
  | (refine wpList_load_row rfl 38 (.tmp 1) rfl g1 rfl 38 #[.int .i64 a0, .int .i64 a1, .int .i64 a2, .int .u64 a3, .int .i64 a4, .slice A5 l5.length c5, .int .u64 a6, .int .u64 a7, .int .u64 a8, .int .u64 a9, .int .u64 a10, .int .u64 a11, .int .u64 a12, .slice A13 l13.length c13, .slice A14 l14.length c14, .float .f64 a15] (0, 0) _ K1a.out Try.underlying38 rfl si38 ?_)
  | (go_at_call 20; refine (conventicleref15_May.calls KM a0 a1 a2 a3 a4 A5 c5 l5 a6 a7 a8 a9 a10 a11 a12 A13 c13 l13 A14 c14 l14 a15 false _ (Kd.C_below H5.out B1a.out) HC5.out (Kd.C_below H13.out B1a.out) HC13.out (Kd.C_below H14.out B1a.out) HC14.out HM.out).mono ?_; rintro e w1 ⟨rfl, hb⟩; have B1 := Aside0.mk (below_step B1a.out hb); clear hb))
 go_ret2
 exact ⟨rfl, B1.out⟩
end Go.Proofs.Ytondgoabnmgcaaa.B
end
