/- Texts of this claim, one behind the other (joined by pack.py): Door Decode Theirs Shown Heavy LawMayW BackP Spoil BackW BackR. -/
import Derived.Test.YtondgoabnmgcaaaKLetterBack17
import Derived.Test.YtondgoabnmgcaaaKLetterBack12
import Derived.Tactics2
import Derived.Defers
import Derived.Recover
import Derived.Laws.Pointers
import Derived.Laws.CopyOwn
import Derived.Test.YtondgoabnmgcaaaKLetterBack8
import Derived.Test.YtondgoabnmgcaaaKLetterBack16
import Derived.Test.YtondgoabnmgcaaaKLetterBack11
import Derived.Test.YtondgoabnmgcaaaKLetterBack7
section
/- By hand: where letter.Decode stands, its deferred closure, and its ways out. -/
namespace Go.Proofs.Ytondgoabnmgcaaa.B
open Go.RowKit Go.Proofs.YtondgoabnmgcaaaW.PrintWords Go.Proofs.YtondgoabnmgcaaaW.PrintLast Go.Proofs.YtondgoabnmgcaaaW.PrintMore
open Go.Proofs.YtondgoabnmgcaaaO.B (IsS63)
open Go.Proofs.YtondgoabnmgcaaaO.R (rdv rdv_range rbits)
set_option linter.unusedSimpArgs false
set_option linter.unusedVariables false
abbrev zeroL : Array Value := #[.int .i64 0, .int .i64 0, .int .i64 0, .int .u64 0, .int .i64 0, .slice none 0 0, .int .u64 0, .int .u64 0, .int .u64 0, .int .u64 0, .int .u64 0, .int .u64 0, .int .u64 0, .slice none 0 0, .slice none 0 0, .float .f64 0]
theorem sizeL : (Try.prog.info? 32).map (·.size) = some zeroL.size := by kernel_rfl
theorem oneL : zeroL.all (·.oneCell') = true := by kernel_rfl
theorem catch_idle (p q : Addr) (w : World) :
    CallsD Try.prog 23 #[.pointer (some p), .pointer (some q)] .returning w fun e u' w' => e = .returned (.tuple #[]) ∧ u' = .returning ∧ w' = w := by
  refine callsD_of_wpS Try.func23 rfl fun c₀ cs hu => ?_
  apply wpS_seq
  apply wpS_region
  simp [wpOpsS, go_sem, recoverD, hu, Try.ntmps23, Exit.thenS]
  refine wpS_of_wp ?_
  go_wp2
  cases c₀
  simp_all [bodyPostS, results, Try.results23]
set_option maxRecDepth 100000 in
set_option maxHeartbeats 1000000 in
theorem catch_panic (g2 g3 : Nat) (er : Int) (cs : Array Value) (w : World) (hn : g2 ≠ g3) (h2 : w.heap[g2]? = some (.cells cs 32 (0, 0))) (hsz : cs.size = 16) (h3 : w.heap[g3]? = some (.cells #[.int .i64 0] 33 (0, 0))) :
    CallsD Try.prog 23 #[.pointer (some ⟨g2, 0, none⟩), .pointer (some ⟨g3, 0, none⟩)] (.panicking [{ v := .iface 33 (.int .i64 er), recovered := false }]) w fun e u' w' =>
      e = .returned (.tuple #[]) ∧ u' = .panicking [{ v := .iface 33 (.int .i64 er), recovered := true }] ∧ w' = (w.setRow g2 zeroL).setCell ⟨g3, 0, none⟩ (.int .i64 er) := by
  have hta : (Instr.typeAssert (.iface 33 (.int .i64 er)) 20 33 true).run Try.prog w = .ok (.tuple #[.int .i64 er, .bool true]) w := by
    first | kernel_rfl | rfl
  have K2 := Aside0.mk h2
  have K3 : (w.setRow g2 zeroL).heap[g3]? = some (.cells #[.int .i64 0] 33 (0, 0)) := (setRow_other w g2 g3 zeroL (Ne.symm hn)).trans h3
  have c3 := blk_cell K3 0
  have f3 := blk_frozen K3 0
  have hz : cs.size = (zeroL).size := by rw [hsz]; rfl
  have HZ := Aside0.mk hz
  clear h2 h3 K3 hn hsz hz
  refine callsD_of_wpS Try.func23 rfl fun c₀ cs' hu => ?_
  apply wpS_seq
  apply wpS_region
  simp [wpOpsS, go_sem, recoverD, hu, Try.ntmps23, Exit.thenS]
  refine wpS_of_wp ?_
  simp only [Array.replicate_succ, Array.replicate_zero, List.push_toArray, List.append_toArray, List.nil_append, List.cons_append, List.setIfInBounds_toArray, List.set_cons_zero, List.set_cons_succ]
  go_wp2_with ((with_reducible refine gate_store (t := 32) (p := 0) rfl ?_); go_loud (refine wpList_store_row rfl 32 (.tmp 0) (.tmp 11) rfl g2 zeroL rfl rfl 32 cs K2.out sizeL HZ.out oneL ?_))
  cases c₀
  simp_all [bodyPostS, results, Try.results23]
/-- where Decode stands: the reader, the letter, the error, the box of the reader; the rows of the letter -/
structure De (w0 W : World) (g g2 g3 g4 : Nat) (s : ByteArray) (q : Int) (cs : Array Value) (v5 v13 v14 : Value) (l5 : List S70) (l13 : List S53) (l14 : List S77) : Prop where
  I : IsS63 w0 W g s q
  B : Below w0.heap.size w0 W
  K2 : W.heap[g2]? = some (.cells cs 32 (0, 0))
  K3 : W.heap[g3]? = some (.cells #[.int .i64 0] 33 (0, 0))
  K4 : W.heap[g4]? = some (.cells #[.pointer (some ⟨g, 0, none⟩)] 65 (0, 0))
  n2 : g2 ≠ g
  n3 : g3 ≠ g
  n4 : g4 ≠ g
  n23 : g2 ≠ g3
  n24 : g2 ≠ g4
  l2 : w0.heap.size ≤ g2
  l3 : w0.heap.size ≤ g3
  sz : cs.size = 16
  R5 : Kd.R k70 70 W w0.heap.size (fun _ => True) v5 l5
  R13 : Kd.R k53 53 W w0.heap.size (fun _ => True) v13 l13
  R14 : Kd.R k77 77 W w0.heap.size (fun _ => True) v14 l14
section
variable {w0 W : World} {g g2 g3 g4 : Nat} {s : ByteArray} {q : Int} {cs : Array Value} {v5 v13 v14 : Value} {l5 : List S70} {l13 : List S53} {l14 : List S77}
theorem De.c2 (S : De w0 W g g2 g3 g4 s q cs v5 v13 v14 l5 l13 l14) (j : Nat) : W.cell? ⟨g2, j, none⟩ = cs[j]? := blk_cell S.K2 j
theorem De.f2 (S : De w0 W g g2 g3 g4 s q cs v5 v13 v14 l5 l13 l14) (j : Nat) : W.frozen? ⟨g2, j, none⟩ = false := blk_frozen S.K2 j
theorem De.call {W' : World} {q' : Int} (S : De w0 W g g2 g3 g4 s q cs v5 v13 v14 l5 l13 l14) (hI : IsS63 w0 W' g s q') (hB : Below w0.heap.size w0 W') (hK : KeepBut W W' g none) : De w0 W' g g2 g3 g4 s q' cs v5 v13 v14 l5 l13 l14 :=
  ⟨hI, hB, hK.blk S.K2 S.n2 (by simp), hK.blk S.K3 S.n3 (by simp), hK.blk S.K4 S.n4 (by simp), S.n2, S.n3, S.n4, S.n23, S.n24, S.l2, S.l3, S.sz,
    Kd.R_mono (Kd.R_keep (Kd.R_types S.R5 S.I.1 (by decide)) hK (fun _ h => h.2)) (fun _ _ => trivial), Kd.R_mono (Kd.R_keep (Kd.R_types S.R13 S.I.1 (by decide)) hK (fun _ h => h.2)) (fun _ _ => trivial), Kd.R_mono (Kd.R_keep (Kd.R_types S.R14 S.I.1 (by decide)) hK (fun _ h => h.2)) (fun _ _ => trivial)⟩
theorem De.put (S : De w0 W g g2 g3 g4 s q cs v5 v13 v14 l5 l13 l14) (j : Nat) (v : Value) : De w0 (W.setCell ⟨g2, j, none⟩ v) g g2 g3 g4 s q (cs.setIfInBounds j v) v5 v13 v14 l5 l13 l14 :=
  ⟨S.I.far (Ne.symm S.n2) v, below_set S.B S.l2, blk_put S.K2 j v rfl, blk_far (p := ⟨g2, j, none⟩) S.K3 (Ne.symm S.n23) v, blk_far (p := ⟨g2, j, none⟩) S.K4 (Ne.symm S.n24) v, S.n2, S.n3, S.n4, S.n23, S.n24, S.l2, S.l3, by rw [Array.size_setIfInBounds]; exact S.sz,
    Kd.R_mono (Kd.R_far (p := ⟨g2, j, none⟩) (Kd.R_types S.R5 S.K2 (by decide)) (fun _ h => h.2) v) (fun _ _ => trivial), Kd.R_mono (Kd.R_far (p := ⟨g2, j, none⟩) (Kd.R_types S.R13 S.K2 (by decide)) (fun _ h => h.2) v) (fun _ _ => trivial), Kd.R_mono (Kd.R_far (p := ⟨g2, j, none⟩) (Kd.R_types S.R14 S.K2 (by decide)) (fun _ h => h.2) v) (fun _ _ => trivial)⟩
theorem De.row5 (S : De w0 W g g2 g3 g4 s q cs v5 v13 v14 l5 l13 l14) {v : Value} {l : List S70} (h : Kd.R k70 70 W w0.heap.size (fun _ => True) v l) : De w0 W g g2 g3 g4 s q cs v v13 v14 l l13 l14 := ⟨S.I, S.B, S.K2, S.K3, S.K4, S.n2, S.n3, S.n4, S.n23, S.n24, S.l2, S.l3, S.sz, h, S.R13, S.R14⟩
theorem De.row13 (S : De w0 W g g2 g3 g4 s q cs v5 v13 v14 l5 l13 l14) {v : Value} {l : List S53} (h : Kd.R k53 53 W w0.heap.size (fun _ => True) v l) : De w0 W g g2 g3 g4 s q cs v5 v v14 l5 l l14 := ⟨S.I, S.B, S.K2, S.K3, S.K4, S.n2, S.n3, S.n4, S.n23, S.n24, S.l2, S.l3, S.sz, S.R5, h, S.R14⟩
theorem De.row14 (S : De w0 W g g2 g3 g4 s q cs v5 v13 v14 l5 l13 l14) {v : Value} {l : List S77} (h : Kd.R k77 77 W w0.heap.size (fun _ => True) v l) : De w0 W g g2 g3 g4 s q cs v5 v13 v l5 l13 l := ⟨S.I, S.B, S.K2, S.K3, S.K4, S.n2, S.n3, S.n4, S.n23, S.n24, S.l2, S.l3, S.sz, S.R5, S.R13, h⟩
end
/-- a letter, as Decode hands it back -/
def cellsL (x : S32) (v5 v13 v14 : Value) : Array Value := #[.int .i64 x.f0, .int .i64 x.f1, .int .i64 x.f2, .int .u64 x.f3, .int .i64 x.f4, v5, .int .u64 x.f6.f0, .int .u64 x.f6.f1, .int .u64 x.f7, .int .u64 x.f8, .int .u64 x.f9.f0, .int .u64 x.f9.f1, .int .u64 x.f10, v13, v14, .float .f64 x.f13]
def DPost (D : Except Int S32) (w0 : World) (e : Ending) (w' : World) : Prop :=
  Below w0.heap.size w0 w' ∧ match D with
  | .error er => e = .returned (.tuple #[.agg zeroL, .int .i64 er])
  | .ok x => ∃ v5 v13 v14, e = .returned (.tuple #[.agg (cellsL x v5 v13 v14), .int .i64 0]) ∧ Kd.R k70 70 w' w0.heap.size (fun _ => True) v5 x.f5 ∧ Kd.R k53 53 w' w0.heap.size (fun _ => True) v13 x.f11 ∧ Kd.R k77 77 w' w0.heap.size (fun _ => True) v14 x.f12
theorem results_dc {P : Program} {fn : Func} {p u : Tmp} {ty ty' : TypeId} {k : IntKind} {d : TypeDesc} (h : fn.results = #[.cell p ty, .cell u ty']) (tmps : Array Value) (w : World) (g g' : Nat) (cs : Array Value) (fr : Nat × Nat) (v' : Value)
    (hp : tmps.getD p undef = .pointer (some ⟨g, 0, none⟩)) (hq : tmps.getD u undef = .pointer (some ⟨g', 0, none⟩)) (hg : w.heap[g]? = some (.cells cs ty fr)) (hc' : w.cell? ⟨g', 0, none⟩ = some v')
    (hu : P.underlying ty = some d) (hd : (match d with | .struct _ | .array _ _ => true | _ => false) = true) (hi : (P.info? ty).map (·.size) = some cs.size) (hu' : P.underlying ty' = some (.int k)) :
    (results fn tmps).run P w = .ok (.tuple #[.agg cs, v']) w := by
  have hp' : tmps[p]?.getD undef = .pointer (some ⟨g, 0, none⟩) := by simpa using hp
  have hq' : tmps[u]?.getD undef = .pointer (some ⟨g', 0, none⟩) := by simpa using hq
  have h1 := run_loadVar_row (P := P) w g ty ty cs fr d hg hu hd hi
  have h2 : (loadVar ty' ⟨g', 0, none⟩).run P w = .ok v' w := by simp [loadVar, isAgg, run_underlying hu', hc']
  simp [results, h, hp', hq', asAddr, h1, h2]
/-- the way out behind a panic with an error, wherever -/
theorem door_bad (w0 W : World) (g2 g3 : Nat) (cs : Array Value) (D : Except Int S32) (er : Int) (T : Array Value) (hn : g2 ≠ g3) (hsz : cs.size = 16) (h2 : W.heap[g2]? = some (.cells cs 32 (0, 0))) (h3 : W.heap[g3]? = some (.cells #[.int .i64 0] 33 (0, 0)))
    (l2 : w0.heap.size ≤ g2) (l3 : w0.heap.size ≤ g3) (hB : Below w0.heap.size w0 W) (hD : D = .error er) (t2 : T.getD 2 undef = .pointer (some ⟨g2, 0, none⟩)) (t3 : T.getD 3 undef = .pointer (some ⟨g3, 0, none⟩)) :
    bodyPostD Try.prog Try.f10 (DPost D w0) (Exit.panic [{ v := .iface 33 (.int .i64 er), recovered := false }])
      { tmps := T, defers := [{ target := .fn (.func 23) #[.pointer (some ⟨g2, 0, none⟩), .pointer (some ⟨g3, 0, none⟩)], args := #[] }] } W := by
  refine leaves_cons (f := 23) (args := #[.pointer (some ⟨g2, 0, none⟩), .pointer (some ⟨g3, 0, none⟩)]) (by simp) (by simp [go_sem]) ?_
  refine (catch_panic g2 g3 er cs W hn h2 hsz h3).mono ?_
  rintro e u' w'' ⟨rfl, rfl, rfl⟩
  have R2 := setRow_heap W g2 cs zeroL 32 (0, 0) h2
  have R3 := (setRow_other W g2 g3 zeroL (Ne.symm hn)).trans h3
  have P2 := blk_far (p := ⟨g3, 0, none⟩) R2 hn (.int .i64 er)
  have P3 := blk_put R3 0 (.int .i64 er) rfl
  refine ⟨_, results_dc (by kernel_rfl) _ _ g2 g3 zeroL (0, 0) (.int .i64 er) t2 t3 P2 (blk_cell P3 0) Try.underlying32 rfl sizeL Try.underlying33, ?_⟩
  subst hD
  exact ⟨below_set (below_setRow hB l2 zeroL) l3, rfl⟩
/-- the way out where all went well -/
theorem door_ok (w0 W : World) (g2 g3 : Nat) (x : S32) (v5 v13 v14 : Value) (D : Except Int S32) (T : Array Value) (h2 : W.heap[g2]? = some (.cells (cellsL x v5 v13 v14) 32 (0, 0))) (h3 : W.heap[g3]? = some (.cells #[.int .i64 0] 33 (0, 0)))
    (hB : Below w0.heap.size w0 W) (hD : D = .ok x) (r5 : Kd.R k70 70 W w0.heap.size (fun _ => True) v5 x.f5) (r13 : Kd.R k53 53 W w0.heap.size (fun _ => True) v13 x.f11) (r14 : Kd.R k77 77 W w0.heap.size (fun _ => True) v14 x.f12)
    (t2 : T.getD 2 undef = .pointer (some ⟨g2, 0, none⟩)) (t3 : T.getD 3 undef = .pointer (some ⟨g3, 0, none⟩)) :
    bodyPostD Try.prog Try.f10 (DPost D w0) Exit.ret
      { tmps := T, defers := [{ target := .fn (.func 23) #[.pointer (some ⟨g2, 0, none⟩), .pointer (some ⟨g3, 0, none⟩)], args := #[] }] } W := by
  refine leaves_cons (f := 23) (args := #[.pointer (some ⟨g2, 0, none⟩), .pointer (some ⟨g3, 0, none⟩)]) (by simp) (by simp [go_sem]) ?_
  refine (catch_idle ⟨g2, 0, none⟩ ⟨g3, 0, none⟩ W).mono ?_
  rintro e u' w'' ⟨rfl, rfl, rfl⟩
  refine ⟨_, results_dc (by kernel_rfl) _ _ g2 g3 (cellsL x v5 v13 v14) (0, 0) (.int .i64 0) t2 t3 h2 (blk_cell h3 0) Try.underlying32 rfl (by kernel_rfl) Try.underlying33, ?_⟩
  subst hD
  exact ⟨hB, v5, v13, v14, rfl, r5, r13, r14⟩
end Go.Proofs.Ytondgoabnmgcaaa.B
end
section
/- By hand: letter.Decode (printed by decode.py). -/
namespace Go.Proofs.Ytondgoabnmgcaaa.B
open Go.RowKit Go.Proofs.YtondgoabnmgcaaaW.PrintWords Go.Proofs.YtondgoabnmgcaaaW.PrintLast Go.Proofs.YtondgoabnmgcaaaW.PrintMore
open Go.Proofs.YtondgoabnmgcaaaO.B (IsS63)
open Go.Proofs.YtondgoabnmgcaaaO.R (rdv rdv_range rbits Ours real_ours num_ok num_short)
set_option linter.unusedSimpArgs false
set_option linter.unusedVariables false
/-! what bytes are which letter, step by step -/
def loadF (s : ByteArray) (p : Nat) : Nat := (rbits (rdv s p 8).toNat).toNat
def letterOf (s : ByteArray) (l5 : List S70) (q : Nat) (l13 : List S53) (l14 : List S77) (q3 : Nat) : S32 :=
  ⟨rdv s 0 1, rdv s 1 1, rdv s 2 1, rdv s 3 8, rdv s 11 1, l5, ⟨rdv s q 8, rdv s (q + 8) 8⟩, rdv s (q + 16) 8, rdv s (q + 24) 8, ⟨rdv s (q + 32) 8, rdv s (q + 32 + 8) 8⟩, rdv s (q + 48) 8, l13, l14, loadF s q3⟩
def d16 (s : ByteArray) (l5 : List S70) (q : Nat) (l13 : List S53) (l14 : List S77) (q3 : Nat) : Except Int S32 :=
  if mayL (rdv s 0 1) (rdv s 1 1) (rdv s 2 1) (rdv s 11 1) l5 l13 l14 (loadF s q3) = false then .error 1 else .ok (letterOf s l5 q l13 l14 q3)
def d15 (s : ByteArray) (l5 : List S70) (q : Nat) (l13 : List S53) (l14 : List S77) (q3 : Nat) : Except Int S32 := if rdv s 0 1 < 1 ∨ 14 < rdv s 0 1 then .error 150 else d16 s l5 q l13 l14 q3
def d14 (s : ByteArray) (l5 : List S70) (q : Nat) (l13 : List S53) (l14 : List S77) (q3 : Nat) : Except Int S32 := if q3 + 8 < s.size then .error 11 else d15 s l5 q l13 l14 q3
def d13 (s : ByteArray) (l5 : List S70) (q : Nat) (l13 : List S53) (l14 : List S77) (q3 : Nat) : Except Int S32 := if s.size < q3 + 8 then .error 10 else d14 s l5 q l13 l14 q3
def d12 (s : ByteArray) (l5 : List S70) (q : Nat) (l13 : List S53) (q2 : Nat) : Except Int S32 := match listI s (itX s) 16 q2 with
  | .error e => .error e
  | .ok (l14, q3) => d13 s l5 q l13 l14 q3
def d11 (s : ByteArray) (l5 : List S70) (q : Nat) : Except Int S32 := match listI s (itP s) 6 (q + 56) with
  | .error e => .error e
  | .ok (l13, q2) => d12 s l5 q l13 q2
def d10 (s : ByteArray) (l5 : List S70) (q : Nat) : Except Int S32 := if s.size < q + 56 then .error 10 else d11 s l5 q
def d9 (s : ByteArray) (l5 : List S70) (q : Nat) : Except Int S32 := if s.size < q + 48 then .error 10 else d10 s l5 q
def d8 (s : ByteArray) (l5 : List S70) (q : Nat) : Except Int S32 := if s.size < q + 32 then .error 10 else d9 s l5 q
def d7 (s : ByteArray) (l5 : List S70) (q : Nat) : Except Int S32 := if s.size < q + 24 then .error 10 else d8 s l5 q
def d6 (s : ByteArray) (l5 : List S70) (q : Nat) : Except Int S32 := if s.size < q + 16 then .error 10 else d7 s l5 q
def d5 (s : ByteArray) : Except Int S32 := match listI s (itU s) 8 12 with
  | .error e => .error e
  | .ok (l5, q) => d6 s l5 q
def d4 (s : ByteArray) : Except Int S32 := if s.size < 12 then .error 10 else d5 s
def d3 (s : ByteArray) : Except Int S32 := if s.size < 11 then .error 10 else d4 s
def d2 (s : ByteArray) : Except Int S32 := if s.size < 3 then .error 10 else d3 s
def d1 (s : ByteArray) : Except Int S32 := if s.size < 2 then .error 10 else d2 s
def decP (s : ByteArray) : Except Int S32 := if s.size < 1 then .error 10 else d1 s
theorem except_or {ε α : Type} (x : Except ε α) : (∃ e, x = .error e) ∨ ∃ a, x = .ok a := by
  cases x with
  | error e => exact .inl ⟨e, rfl⟩
  | ok a => exact .inr ⟨a, rfl⟩
theorem view_bad (w0 w : World) (g : Nat) (s : ByteArray) (p : Nat) (hs : s.size < 4611686018427387904) (hp : p ≤ s.size) (h : s.size < p + 16) (hI : IsS63 w0 w g s p) (hB : Below w0.heap.size w0 w) :
    Calls Try.prog 31 #[.agg #[.pointer (some ⟨g, 0, none⟩)]] w fun e w' => e = bad 10 ∧ Below w0.heap.size w0 w' ∧ KeepBut w w' g none := by
  by_cases h1 : s.size < p + 8
  · exact view_bad0 w0 w g s p hs (by omega) h1 hI hB
  · exact view_bad1 w0 w g s p hs (by omega) h hI hB
theorem de_start {w w4 : World} {g g2 g3 g4 : Nat} {s : ByteArray} (I : IsS63 w w4 g s 0) (B : Below w.heap.size w w4) (K2 : w4.heap[g2]? = some (.cells zeroL 32 (0, 0))) (K3 : w4.heap[g3]? = some (.cells #[.int .i64 0] 33 (0, 0)))
    (K4 : w4.heap[g4]? = some (.cells #[.pointer none] 65 (0, 0))) (l2 : w.heap.size ≤ g2) (l3 : w.heap.size ≤ g3) (l4 : w.heap.size ≤ g4) (n23 : g2 ≠ g3) (n24 : g2 ≠ g4) (n34 : g3 ≠ g4) (n2 : g2 ≠ g) (n3 : g3 ≠ g) (n4 : g4 ≠ g) :
    De w (w4.setCell ⟨g4, 0, none⟩ (.pointer (some ⟨g, 0, none⟩))) g g2 g3 g4 s 0 zeroL (.slice none 0 0) (.slice none 0 0) (.slice none 0 0) [] [] [] :=
  ⟨I.far (Ne.symm n4) _, below_set B l4, blk_far (p := ⟨g4, 0, none⟩) K2 n24 _, blk_far (p := ⟨g4, 0, none⟩) K3 n34 _, blk_put K4 0 _ rfl, n2, n3, n4, n23, n24, l2, l3, rfl, Kd.R_nil _ _ _ _ _, Kd.R_nil _ _ _ _ _, Kd.R_nil _ _ _ _ _⟩
theorem real37_ok (w0 w : World) (g : Nat) (s : ByteArray) (p : Nat) (hs : s.size < 4611686018427387904) (h : p + 8 ≤ s.size) (hI : IsS63 w0 w g s p) (hB : Below w0.heap.size w0 w) :
    Calls Try.prog 37 #[.pointer (some ⟨g, 0, none⟩)] w fun e w' => e = .returned (.tuple #[.float .f64 (loadF s p), .int .i64 0]) ∧ IsS63 w0 w' g s ((p + 8 : Nat) : Int) ∧ Below w0.heap.size w0 w' ∧ KeepBut w w' g none := by
  have hn := num_ok s p 8 (by omega) (by omega) hs h
  have := real_ours w0 s p _ _ 0 10 hn g w hI hB
  exact this
theorem real37_bad (w0 w : World) (g : Nat) (s : ByteArray) (p : Nat) (hp : p ≤ s.size) (h : s.size < p + 8) (hI : IsS63 w0 w g s p) (hB : Below w0.heap.size w0 w) :
    Calls Try.prog 37 #[.pointer (some ⟨g, 0, none⟩)] w fun e w' => ∃ x, e = .returned (.tuple #[.float .f64 x, .int .i64 10]) ∧ Below w0.heap.size w0 w' ∧ KeepBut w w' g none := by
  have hn := num_short s p 8 (by omega) (by omega) hp h
  have := real_ours w0 s p _ _ 10 10 hn g w hI hB
  exact this.mono (fun e w' hh => ⟨_, hh.1, hh.2.2.1, hh.2.2.2⟩)
theorem end_more (w0 w : World) (g : Nat) (s : ByteArray) (p : Nat) (hs : s.size < 4611686018427387904) (h : p < s.size) (hI : IsS63 w0 w g s p) (hB : Below w0.heap.size w0 w) :
    Calls Try.prog 38 #[.pointer (some ⟨g, 0, none⟩)] w fun e w' => e = .returned (.int .i64 11) ∧ IsS63 w0 w' g s p ∧ Below w0.heap.size w0 w' ∧ KeepBut w w' g none := by
  refine Go.Proofs.YtondgoabnmgcaaaO.B.octet_Reader_End.calls g s p 11 s p w0 w hI hB ?_
  unfold Go.Proofs.YtondgoabnmgcaaaO.B.octet_Reader_End.f Go.Proofs.YtondgoabnmgcaaaO.B.octet_Reader_Left.f
  have : wrap64 ((s.size : Int) - p) = (s.size : Int) - p := by unfold wrap64; omega
  rw [this, Option.bind_some]
  exact if_pos (by show (s.size : Int) - p > 0; omega)
theorem end_done (w0 w : World) (g : Nat) (s : ByteArray) (p : Nat) (hs : s.size < 4611686018427387904) (h : p = s.size) (hI : IsS63 w0 w g s p) (hB : Below w0.heap.size w0 w) :
    Calls Try.prog 38 #[.pointer (some ⟨g, 0, none⟩)] w fun e w' => e = .returned (.int .i64 0) ∧ IsS63 w0 w' g s p ∧ Below w0.heap.size w0 w' ∧ KeepBut w w' g none := by
  refine Go.Proofs.YtondgoabnmgcaaaO.B.octet_Reader_End.calls g s p 0 s p w0 w hI hB ?_
  unfold Go.Proofs.YtondgoabnmgcaaaO.B.octet_Reader_End.f Go.Proofs.YtondgoabnmgcaaaO.B.octet_Reader_Left.f
  have : wrap64 ((s.size : Int) - p) = (s.size : Int) - p := by unfold wrap64; omega
  rw [this, Option.bind_some]
  exact if_neg (by show ¬ (s.size : Int) - p > 0; omega)
theorem row_step {w : World} {g : Nat} {cs : Array Value} {v : Value} {α : Type} {d : Kd α} {e base : Nat} {l : List α} (h : Kd.R d e w base (fun _ => True) v l) (hb : w.heap[g]? = some (.cells cs 32 (0, 0))) (ht : ∀ q, q ∈ e :: d.E → q ≠ 32) (cs' : Array Value) : Kd.R d e (w.setRow g cs') base (fun _ => True) v l :=
  Kd.R_mono (Kd.R_step (Kd.R_types h hb ht) (fun k hk _ => setRow_other w g k cs' hk.2)) (fun _ _ => trivial)
theorem De.below {w0 W W' : World} {g g2 g3 g4 : Nat} {s : ByteArray} {q : Int} {cs : Array Value} {v5 v13 v14 : Value} {l5 : List S70} {l13 : List S53} {l14 : List S77} (S : De w0 W g g2 g3 g4 s q cs v5 v13 v14 l5 l13 l14) (hb : Below W.heap.size W W') : De w0 W' g g2 g3 g4 s q cs v5 v13 v14 l5 l13 l14 :=
  S.call ⟨blk_below S.I.1 hb, S.I.2⟩ (below_step S.B hb) (KeepBut.of_below hb g none)
theorem run_store_float (P : Program) (w : World) (a : Addr) (m : Mode) (k : FloatKind) (n : Nat) : (store a (.float k n) m).run P w = stored P w a (.float k n) m := run_store P w a _ m rfl
attribute [local go_sem] run_store_float
theorem one_L (a0 a1 a2 a3 a4 : Int) (A5 : Option Addr) (n5 c5 : Nat) (a6 a7 a8 a9 a10 a11 a12 : Int) (A13 : Option Addr) (n13 c13 : Nat) (A14 : Option Addr) (n14 c14 : Nat) (a15 : Nat) :
    (#[.int .i64 a0, .int .i64 a1, .int .i64 a2, .int .u64 a3, .int .i64 a4, .slice A5 n5 c5, .int .u64 a6, .int .u64 a7, .int .u64 a8, .int .u64 a9, .int .u64 a10, .int .u64 a11, .int .u64 a12, .slice A13 n13 c13, .slice A14 n14 c14, .float .f64 a15] : Array Value).all (·.oneCell') = true := by kernel_rfl
set_option maxRecDepth 100000 in
set_option maxHeartbeats 1000000 in
theorem decode_shut (w : World) (t s : ByteArray) (er : Int) (hO : Go.Proofs.YtondgoabnmgcaaaG.B.guard_Open.f t = some (s, er)) (he : ¬ er = 0) : Calls Try.prog 10 #[.string t] w (DPost (.error er) w) := by
  have hmf : ∀ (fn : Fn) (first cap : Array Value) (w : World), (Instr.makeFunc fn first cap).run Try.prog w = .ok (.func fn first cap) w := fun _ _ _ _ => rfl
  have HO := Aside0.mk hO
  have size65 := size65
  have HE := Aside0.mk he
  clear hO he
  go_enter_defers Try.func10, Try.ntmps10
  go_wp2_with (first
    | ((with_reducible refine gate_dst (N := 2) rfl ?_); refine box_event ?hg (N := 2) ?hd (cs := #[.int .i64 0, .int .i64 0, .int .i64 0, .int .u64 0, .int .i64 0, .slice none 0 0, .int .u64 0, .int .u64 0, .int .u64 0, .int .u64 0, .int .u64 0, .int .u64 0, .int .u64 0, .slice none 0 0, .slice none 0 0, .float .f64 0]) (t := 32) ?hr ?_; (case hd => rfl); (case hg => rfl); (case hr => first | (go_simp; done) | (go_simp; rfl)); intro g2 hg_ w1 hb_ hB_; have K2 := Aside0.mk hb_; have B1 := Aside0.mk hB_; have L2 := Aside0.mk (Nat.le_of_eq hg_.symm); clear hg_ hb_ hB_)
    | ((with_reducible refine gate_dst (N := 3) rfl ?_); refine box_event ?hg (N := 3) ?hd (cs := #[.int .i64 0]) (t := 33) ?hr ?_; (case hd => rfl); (case hg => rfl); (case hr => first | (go_simp; done) | (go_simp; rfl)); intro g3 hg_ w2 hb_ hB_; have K3 := Aside0.mk hb_; have K2b := Aside0.mk (blk_below K2.out hB_); have L3 := Aside0.mk (show w.heap.size ≤ g3 by have := B1.out.size; omega); have N23 := Aside0.mk (show g2 ≠ g3 by have := blk_lt K2.out; omega); have B2 := Aside0.mk (below_step B1.out hB_); clear hg_ hb_ hB_ K2 B1)
    | (go_at_call 26; refine (Go.Proofs.YtondgoabnmgcaaaG.B.guard_Open.calls t s er _ HO.out).mono ?_; rintro e w3 ⟨rfl, hb⟩; have K2c := Aside0.mk (blk_below K2b.out hb); have K3c := Aside0.mk (blk_below K3.out hb); have B3 := Aside0.mk (below_step B2.out hb); clear hb K2b K3 B2)
    | (go_at_call 25; refine (must_str_bad s er HE.out _).mono ?_; rintro e w4 ⟨rfl, rfl⟩))
  exact door_bad w _ g2 g3 zeroL (.error er) er _ N23.out rfl K2c.out K3c.out L2.out L3.out B3.out rfl rfl rfl

set_option maxRecDepth 100000 in
set_option maxHeartbeats 4000000 in
theorem decode_walk (w : World) (t s : ByteArray) (hO : Go.Proofs.YtondgoabnmgcaaaG.B.guard_Open.f t = some (s, 0)) (hs : s.size < 4611686018427387904) : Calls Try.prog 10 #[.string t] w (DPost (decP s) w) := by
  have hmf : ∀ (fn : Fn) (first cap : Array Value) (w : World), (Instr.makeFunc fn first cap).run Try.prog w = .ok (.func fn first cap) w := fun _ _ _ _ => rfl
  have HO := Aside0.mk hO
  have size65 := size65
  have HS := Aside0.mk hs
  obtain ⟨D, hD⟩ : ∃ D, D = decP s := ⟨_, rfl⟩
  rw [← hD]
  have HD := Aside0.mk hD
  clear hD
  have HQ : Aside0 (0 ≤ s.size) := ⟨Nat.zero_le _⟩
  clear hO hs
  go_enter_defers Try.func10, Try.ntmps10
  go_wp2_with (first
    | ((with_reducible refine gate_dst (N := 2) rfl ?_); refine box_event ?hg (N := 2) ?hd (cs := #[.int .i64 0, .int .i64 0, .int .i64 0, .int .u64 0, .int .i64 0, .slice none 0 0, .int .u64 0, .int .u64 0, .int .u64 0, .int .u64 0, .int .u64 0, .int .u64 0, .int .u64 0, .slice none 0 0, .slice none 0 0, .float .f64 0]) (t := 32) ?hr ?_; (case hd => rfl); (case hg => rfl); (case hr => first | (go_simp; done) | (go_simp; rfl)); intro g2 hg_ w1 hb_ hB_; have K2 := Aside0.mk hb_; have B1 := Aside0.mk hB_; have L2 := Aside0.mk (Nat.le_of_eq hg_.symm); clear hg_ hb_ hB_)
    | ((with_reducible refine gate_dst (N := 3) rfl ?_); refine box_event ?hg (N := 3) ?hd (cs := #[.int .i64 0]) (t := 33) ?hr ?_; (case hd => rfl); (case hg => rfl); (case hr => first | (go_simp; done) | (go_simp; rfl)); intro g3 hg_ w2 hb_ hB_; have K3 := Aside0.mk hb_; have K2b := Aside0.mk (blk_below K2.out hB_); have L3 := Aside0.mk (show w.heap.size ≤ g3 by have := B1.out.size; omega); have N23 := Aside0.mk (show g2 ≠ g3 by have := blk_lt K2.out; omega); have B2 := Aside0.mk (below_step B1.out hB_); clear hg_ hb_ hB_ K2 B1)
    | (go_at_call 26; refine (Go.Proofs.YtondgoabnmgcaaaG.B.guard_Open.calls t s 0 _ HO.out).mono ?_; rintro e w3 ⟨rfl, hb⟩; have K2c := Aside0.mk (blk_below K2b.out hb); have K3c := Aside0.mk (blk_below K3.out hb); have B3 := Aside0.mk (below_step B2.out hb); clear hb K2b K3 B2)
    | (go_at_call 25; refine (must_str_ok s _).mono ?_; rintro e w4 ⟨rfl, rfl⟩)
    | (go_at_call 24; refine (Go.Proofs.YtondgoabnmgcaaaO.B.octet_New.calls s s 0 w _ B3.out rfl).mono ?_; rintro e w5 ⟨g, rfl, hi, hb, hb2⟩; have I5 := Aside0.mk hi; have K2d := Aside0.mk (blk_below K2c.out hb2); have K3d := Aside0.mk (blk_below K3c.out hb2); have N2 := Aside0.mk (show g2 ≠ g from fun e => by subst e; have := K2d.out.symm.trans hi.1; injection this with this; injection this with _ this; exact absurd this (by decide)); have N3 := Aside0.mk (show g3 ≠ g from fun e => by subst e; have := K3d.out.symm.trans hi.1; injection this with this; injection this with _ this; exact absurd this (by decide)); have B5 := Aside0.mk hb; clear hi hb hb2 K2c K3c B3)
    | ((with_reducible refine gate_dst (N := 4) rfl ?_); refine box_event ?hg (N := 4) ?hd (cs := #[.pointer none]) (t := 65) ?hr ?_; (case hd => rfl); (case hg => rfl); (case hr => first | (go_simp; done) | (go_simp; rfl)); intro g4 hg_ w6 hb_ hB_; have I6 := Aside0.mk (show IsS63 w w6 g s 0 from ⟨blk_below I5.out.1 hB_, I5.out.2⟩); have B6 := Aside0.mk (below_step B5.out hB_); have K2e := Aside0.mk (blk_below K2d.out hB_); have K3e := Aside0.mk (blk_below K3d.out hB_); have N4 := Aside0.mk (show g2 ≠ g4 ∧ g3 ≠ g4 ∧ g4 ≠ g ∧ w.heap.size ≤ g4 from ⟨by have := blk_lt K2d.out; omega, by have := blk_lt K3d.out; omega, by have := blk_lt I5.out.1; omega, by have := B5.out.size; omega⟩); have z := blk_cell hb_ 0; have zf := blk_frozen hb_ 0; have S0 := Aside0.mk (de_start I6.out B6.out K2e.out K3e.out hb_ L2.out L3.out N4.out.2.2.2 N23.out N4.out.1 N4.out.2.1 N2.out N3.out N4.out.2.2.1); clear hg_ hb_ hB_ I5 B5 K2d K3d)
    | (refine wpList_load_row rfl 65 (.tmp 4) rfl g4 rfl 65 #[.pointer (some ⟨g, 0, none⟩)] (0, 0) _ (S0.out).K4 Try.underlying65 rfl size65 ?_; have T0 : Aside0 (De w _ g g2 g3 g4 s _ #[.int .i64 0, .int .i64 0, .int .i64 0, .int .u64 0, .int .i64 0, .slice none 0 0, .int .u64 0, .int .u64 0, .int .u64 0, .int .u64 0, .int .u64 0, .int .u64 0, .int .u64 0, .slice none 0 0, .slice none 0 0, .float .f64 0] _ _ _ _ _ _) := ⟨S0.out⟩; generalize World.setCell _ _ _ = wa0 at T0 ⊢; (try clear z); (try clear zf); clear S0)
    | (go_at_call 27; refine Classical.byCases (p := s.size < 1) (fun hN => by (refine (small_bad w _ g s 0 (by have := HQ.out; omega) (by omega) T0.out.I T0.out.B).mono ?_; rintro e w' ⟨rfl, hb, hk⟩; exact door_bad w _ g2 g3 _ D 10 _ N23.out T0.out.sz (hk.blk T0.out.K2 T0.out.n2 (by simp)) (hk.blk T0.out.K3 T0.out.n3 (by simp)) L2.out L3.out hb (by rw [HD.out]; exact if_pos hN) rfl rfl)) (fun hN => ?_); have HE : Aside0 (D = d1 s) := ⟨by rw [HD.out]; exact if_neg hN⟩; have HR : Aside0 (1 ≤ s.size) := ⟨by omega⟩; clear HD HQ hN; have HD := HE; have HQ := HR; clear HE HR; refine (small_ok w _ g s 0 HS.out (by have := HQ.out; omega) T0.out.I T0.out.B).mono ?_; rintro e wb0 ⟨rfl, hi, hb, hk⟩; have S1 := Aside0.mk (T0.out.call hi hb hk); have z := S1.out.c2 0; have zf := S1.out.f2 0; clear hi hb hk T0)
    | (refine wpList_load_row rfl 65 (.tmp 4) rfl g4 rfl 65 #[.pointer (some ⟨g, 0, none⟩)] (0, 0) _ (S1.out.put 0 (.int .i64 (rdv s 0 1))).K4 Try.underlying65 rfl size65 ?_; have T1 : Aside0 (De w _ g g2 g3 g4 s _ #[.int .i64 (rdv s 0 1), .int .i64 0, .int .i64 0, .int .u64 0, .int .i64 0, .slice none 0 0, .int .u64 0, .int .u64 0, .int .u64 0, .int .u64 0, .int .u64 0, .int .u64 0, .int .u64 0, .slice none 0 0, .slice none 0 0, .float .f64 0] _ _ _ _ _ _) := ⟨S1.out.put 0 (.int .i64 (rdv s 0 1))⟩; generalize World.setCell _ _ _ = wa1 at T1 ⊢; (try clear z); (try clear zf); clear S1)
    | (go_at_call 27; refine Classical.byCases (p := s.size < 2) (fun hN => by (refine (small_bad w _ g s 1 (by have := HQ.out; omega) (by omega) T1.out.I T1.out.B).mono ?_; rintro e w' ⟨rfl, hb, hk⟩; exact door_bad w _ g2 g3 _ D 10 _ N23.out T1.out.sz (hk.blk T1.out.K2 T1.out.n2 (by simp)) (hk.blk T1.out.K3 T1.out.n3 (by simp)) L2.out L3.out hb (by rw [HD.out]; exact if_pos hN) rfl rfl)) (fun hN => ?_); have HE : Aside0 (D = d2 s) := ⟨by rw [HD.out]; exact if_neg hN⟩; have HR : Aside0 (2 ≤ s.size) := ⟨by omega⟩; clear HD HQ hN; have HD := HE; have HQ := HR; clear HE HR; refine (small_ok w _ g s 1 HS.out (by have := HQ.out; omega) T1.out.I T1.out.B).mono ?_; rintro e wb1 ⟨rfl, hi, hb, hk⟩; have S2 := Aside0.mk (T1.out.call hi hb hk); have z := S2.out.c2 1; have zf := S2.out.f2 1; clear hi hb hk T1)
    | (refine wpList_load_row rfl 65 (.tmp 4) rfl g4 rfl 65 #[.pointer (some ⟨g, 0, none⟩)] (0, 0) _ (S2.out.put 1 (.int .i64 (rdv s 1 1))).K4 Try.underlying65 rfl size65 ?_; have T2 : Aside0 (De w _ g g2 g3 g4 s _ #[.int .i64 (rdv s 0 1), .int .i64 (rdv s 1 1), .int .i64 0, .int .u64 0, .int .i64 0, .slice none 0 0, .int .u64 0, .int .u64 0, .int .u64 0, .int .u64 0, .int .u64 0, .int .u64 0, .int .u64 0, .slice none 0 0, .slice none 0 0, .float .f64 0] _ _ _ _ _ _) := ⟨S2.out.put 1 (.int .i64 (rdv s 1 1))⟩; generalize World.setCell _ _ _ = wa2 at T2 ⊢; (try clear z); (try clear zf); clear S2)
    | (go_at_call 27; refine Classical.byCases (p := s.size < 3) (fun hN => by (refine (small_bad w _ g s 2 (by have := HQ.out; omega) (by omega) T2.out.I T2.out.B).mono ?_; rintro e w' ⟨rfl, hb, hk⟩; exact door_bad w _ g2 g3 _ D 10 _ N23.out T2.out.sz (hk.blk T2.out.K2 T2.out.n2 (by simp)) (hk.blk T2.out.K3 T2.out.n3 (by simp)) L2.out L3.out hb (by rw [HD.out]; exact if_pos hN) rfl rfl)) (fun hN => ?_); have HE : Aside0 (D = d3 s) := ⟨by rw [HD.out]; exact if_neg hN⟩; have HR : Aside0 (3 ≤ s.size) := ⟨by omega⟩; clear HD HQ hN; have HD := HE; have HQ := HR; clear HE HR; refine (small_ok w _ g s 2 HS.out (by have := HQ.out; omega) T2.out.I T2.out.B).mono ?_; rintro e wb2 ⟨rfl, hi, hb, hk⟩; have S3 := Aside0.mk (T2.out.call hi hb hk); have z := S3.out.c2 2; have zf := S3.out.f2 2; clear hi hb hk T2)
    | (refine wpList_load_row rfl 65 (.tmp 4) rfl g4 rfl 65 #[.pointer (some ⟨g, 0, none⟩)] (0, 0) _ (S3.out.put 2 (.int .i64 (rdv s 2 1))).K4 Try.underlying65 rfl size65 ?_; have T3 : Aside0 (De w _ g g2 g3 g4 s _ #[.int .i64 (rdv s 0 1), .int .i64 (rdv s 1 1), .int .i64 (rdv s 2 1), .int .u64 0, .int .i64 0, .slice none 0 0, .int .u64 0, .int .u64 0, .int .u64 0, .int .u64 0, .int .u64 0, .int .u64 0, .int .u64 0, .slice none 0 0, .slice none 0 0, .float .f64 0] _ _ _ _ _ _) := ⟨S3.out.put 2 (.int .i64 (rdv s 2 1))⟩; generalize World.setCell _ _ _ = wa3 at T3 ⊢; (try clear z); (try clear zf); clear S3)
    | (go_at_call 28; refine Classical.byCases (p := s.size < 11) (fun hN => by (refine (large_bad w _ g s 3 (by have := HQ.out; omega) (by omega) T3.out.I T3.out.B).mono ?_; rintro e w' ⟨rfl, hb, hk⟩; exact door_bad w _ g2 g3 _ D 10 _ N23.out T3.out.sz (hk.blk T3.out.K2 T3.out.n2 (by simp)) (hk.blk T3.out.K3 T3.out.n3 (by simp)) L2.out L3.out hb (by rw [HD.out]; exact if_pos hN) rfl rfl)) (fun hN => ?_); have HE : Aside0 (D = d4 s) := ⟨by rw [HD.out]; exact if_neg hN⟩; have HR : Aside0 (11 ≤ s.size) := ⟨by omega⟩; clear HD HQ hN; have HD := HE; have HQ := HR; clear HE HR; refine (large_ok w _ g s 3 HS.out (by have := HQ.out; omega) T3.out.I T3.out.B).mono ?_; rintro e wb3 ⟨rfl, hi, hb, hk⟩; have S4 := Aside0.mk (T3.out.call hi hb hk); have z := S4.out.c2 3; have zf := S4.out.f2 3; clear hi hb hk T3)
    | (refine wpList_load_row rfl 65 (.tmp 4) rfl g4 rfl 65 #[.pointer (some ⟨g, 0, none⟩)] (0, 0) _ (S4.out.put 3 (.int .u64 (rdv s 3 8))).K4 Try.underlying65 rfl size65 ?_; have T4 : Aside0 (De w _ g g2 g3 g4 s _ #[.int .i64 (rdv s 0 1), .int .i64 (rdv s 1 1), .int .i64 (rdv s 2 1), .int .u64 (rdv s 3 8), .int .i64 0, .slice none 0 0, .int .u64 0, .int .u64 0, .int .u64 0, .int .u64 0, .int .u64 0, .int .u64 0, .int .u64 0, .slice none 0 0, .slice none 0 0, .float .f64 0] _ _ _ _ _ _) := ⟨S4.out.put 3 (.int .u64 (rdv s 3 8))⟩; generalize World.setCell _ _ _ = wa4 at T4 ⊢; (try clear z); (try clear zf); clear S4)
    | (go_at_call 27; refine Classical.byCases (p := s.size < 12) (fun hN => by (refine (small_bad w _ g s 11 (by have := HQ.out; omega) (by omega) T4.out.I T4.out.B).mono ?_; rintro e w' ⟨rfl, hb, hk⟩; exact door_bad w _ g2 g3 _ D 10 _ N23.out T4.out.sz (hk.blk T4.out.K2 T4.out.n2 (by simp)) (hk.blk T4.out.K3 T4.out.n3 (by simp)) L2.out L3.out hb (by rw [HD.out]; exact if_pos hN) rfl rfl)) (fun hN => ?_); have HE : Aside0 (D = d5 s) := ⟨by rw [HD.out]; exact if_neg hN⟩; have HR : Aside0 (12 ≤ s.size) := ⟨by omega⟩; clear HD HQ hN; have HD := HE; have HQ := HR; clear HE HR; refine (small_ok w _ g s 11 HS.out (by have := HQ.out; omega) T4.out.I T4.out.B).mono ?_; rintro e wb4 ⟨rfl, hi, hb, hk⟩; have S5 := Aside0.mk (T4.out.call hi hb hk); have z := S5.out.c2 4; have zf := S5.out.f2 4; clear hi hb hk T4)
    | (refine wpList_load_row rfl 65 (.tmp 4) rfl g4 rfl 65 #[.pointer (some ⟨g, 0, none⟩)] (0, 0) _ (S5.out.put 4 (.int .i64 (rdv s 11 1))).K4 Try.underlying65 rfl size65 ?_; have T5 : Aside0 (De w _ g g2 g3 g4 s _ #[.int .i64 (rdv s 0 1), .int .i64 (rdv s 1 1), .int .i64 (rdv s 2 1), .int .u64 (rdv s 3 8), .int .i64 (rdv s 11 1), .slice none 0 0, .int .u64 0, .int .u64 0, .int .u64 0, .int .u64 0, .int .u64 0, .int .u64 0, .int .u64 0, .slice none 0 0, .slice none 0 0, .float .f64 0] _ _ _ _ _ _) := ⟨S5.out.put 4 (.int .i64 (rdv s 11 1))⟩; generalize World.setCell _ _ _ = wa5 at T5 ⊢; (try clear z); (try clear zf); clear S5)
    | (refine wpList_load_row rfl 65 (.tmp 4) rfl g4 rfl 65 #[.pointer (some ⟨g, 0, none⟩)] (0, 0) _ T5.out.K4 Try.underlying65 rfl size65 ?_)
    | (go_at_call 29; refine Or.elim (except_or (listI s (itU s) 8 12)) (fun hN => by (obtain ⟨er, hL⟩ := hN; refine (upd_list_bad w _ g s 12 8 (by have := HQ.out; omega) HS.out T5.out.I T5.out.B er hL).mono ?_; rintro e w' ⟨rfl, hb, hk⟩; exact door_bad w _ g2 g3 _ D er _ N23.out T5.out.sz (hk.blk T5.out.K2 T5.out.n2 (by simp)) (hk.blk T5.out.K3 T5.out.n3 (by simp)) L2.out L3.out hb (by rw [HD.out]; unfold d5; rw [hL]) rfl rfl)) (fun hN => ?_); obtain ⟨⟨l5, q⟩, hL⟩ := hN; have HE : Aside0 (D = d6 s l5 q) := ⟨by rw [HD.out]; unfold d5; rw [hL]⟩; have HL5 := Aside0.mk hL; clear hL HD; have HD := HE; clear HE; refine (upd_list_ok w _ g s 12 8 (by have := HQ.out; omega) HS.out T5.out.I T5.out.B l5 q HL5.out).mono ?_; rintro e wb5 ⟨v, rfl, ho, hi, hq, hb, hk⟩; obtain ⟨A5, c5, rfl⟩ := Kd.R_slice ho; have HR : Aside0 (q ≤ s.size) := ⟨hq⟩; clear HQ; have HQ := HR; clear HR; have S6 := Aside0.mk ((T5.out.call hi hb hk).row5 (Kd.R_mono (Kd.R_lower ho T5.out.B.size) (fun _ _ => trivial))); have z := S6.out.c2 5; have zf := S6.out.f2 5; clear hi hb hk ho hq T5)
    | (refine wpList_load_row rfl 65 (.tmp 4) rfl g4 rfl 65 #[.pointer (some ⟨g, 0, none⟩)] (0, 0) _ (S6.out.put 5 (.slice A5 l5.length c5)).K4 Try.underlying65 rfl size65 ?_; have T6 : Aside0 (De w _ g g2 g3 g4 s _ #[.int .i64 (rdv s 0 1), .int .i64 (rdv s 1 1), .int .i64 (rdv s 2 1), .int .u64 (rdv s 3 8), .int .i64 (rdv s 11 1), .slice A5 l5.length c5, .int .u64 0, .int .u64 0, .int .u64 0, .int .u64 0, .int .u64 0, .int .u64 0, .int .u64 0, .slice none 0 0, .slice none 0 0, .float .f64 0] _ _ _ _ _ _) := ⟨S6.out.put 5 (.slice A5 l5.length c5)⟩; generalize World.setCell _ _ _ = wa6 at T6 ⊢; (try clear z); (try clear zf); clear S6)
    | (go_at_call 31; refine Classical.byCases (p := s.size < q + 16) (fun hN => by (refine (view_bad w _ g s q HS.out (by have := HQ.out; omega) (by omega) T6.out.I T6.out.B).mono ?_; rintro e w' ⟨rfl, hb, hk⟩; exact door_bad w _ g2 g3 _ D 10 _ N23.out T6.out.sz (hk.blk T6.out.K2 T6.out.n2 (by simp)) (hk.blk T6.out.K3 T6.out.n3 (by simp)) L2.out L3.out hb (by rw [HD.out]; exact if_pos hN) rfl rfl)) (fun hN => ?_); have HE : Aside0 (D = d7 s l5 q) := ⟨by rw [HD.out]; exact if_neg hN⟩; have HR : Aside0 (q + 16 ≤ s.size) := ⟨by omega⟩; clear HD HQ hN; have HD := HE; have HQ := HR; clear HE HR; refine (view_ok w _ g s q HS.out (by have := HQ.out; omega) T6.out.I T6.out.B).mono ?_; rintro e wb6 ⟨rfl, hi, hb, hk⟩; have S7 := Aside0.mk (T6.out.call hi hb hk); have z := fun j => S7.out.c2 j; have zf := fun j => S7.out.f2 j; clear hi hb hk T6)
    | (refine wpList_load_row rfl 65 (.tmp 4) rfl g4 rfl 65 #[.pointer (some ⟨g, 0, none⟩)] (0, 0) _ ((S7.out.put 6 (.int .u64 (rdv s q 8))).put 7 (.int .u64 (rdv s (q + 8) 8))).K4 Try.underlying65 rfl size65 ?_; have T7 : Aside0 (De w _ g g2 g3 g4 s _ #[.int .i64 (rdv s 0 1), .int .i64 (rdv s 1 1), .int .i64 (rdv s 2 1), .int .u64 (rdv s 3 8), .int .i64 (rdv s 11 1), .slice A5 l5.length c5, .int .u64 (rdv s q 8), .int .u64 (rdv s (q + 8) 8), .int .u64 0, .int .u64 0, .int .u64 0, .int .u64 0, .int .u64 0, .slice none 0 0, .slice none 0 0, .float .f64 0] _ _ _ _ _ _) := ⟨(S7.out.put 6 (.int .u64 (rdv s q 8))).put 7 (.int .u64 (rdv s (q + 8) 8))⟩; generalize World.setCell _ _ _ = wa7 at T7 ⊢; (try clear z); (try clear zf); clear S7)
    | (go_at_call 28; refine Classical.byCases (p := s.size < q + 24) (fun hN => by (refine (large_bad w _ g s (q + 16) (by have := HQ.out; omega) (by omega) T7.out.I T7.out.B).mono ?_; rintro e w' ⟨rfl, hb, hk⟩; exact door_bad w _ g2 g3 _ D 10 _ N23.out T7.out.sz (hk.blk T7.out.K2 T7.out.n2 (by simp)) (hk.blk T7.out.K3 T7.out.n3 (by simp)) L2.out L3.out hb (by rw [HD.out]; exact if_pos hN) rfl rfl)) (fun hN => ?_); have HE : Aside0 (D = d8 s l5 q) := ⟨by rw [HD.out]; exact if_neg hN⟩; have HR : Aside0 (q + 24 ≤ s.size) := ⟨by omega⟩; clear HD HQ hN; have HD := HE; have HQ := HR; clear HE HR; refine (large_ok w _ g s (q + 16) HS.out (by have := HQ.out; omega) T7.out.I T7.out.B).mono ?_; rintro e wb7 ⟨rfl, hi, hb, hk⟩; have S8 := Aside0.mk (T7.out.call hi hb hk); have z := S8.out.c2 8; have zf := S8.out.f2 8; clear hi hb hk T7)
    | (refine wpList_load_row rfl 65 (.tmp 4) rfl g4 rfl 65 #[.pointer (some ⟨g, 0, none⟩)] (0, 0) _ (S8.out.put 8 (.int .u64 (rdv s (q + 16) 8))).K4 Try.underlying65 rfl size65 ?_; have T8 : Aside0 (De w _ g g2 g3 g4 s _ #[.int .i64 (rdv s 0 1), .int .i64 (rdv s 1 1), .int .i64 (rdv s 2 1), .int .u64 (rdv s 3 8), .int .i64 (rdv s 11 1), .slice A5 l5.length c5, .int .u64 (rdv s q 8), .int .u64 (rdv s (q + 8) 8), .int .u64 (rdv s (q + 16) 8), .int .u64 0, .int .u64 0, .int .u64 0, .int .u64 0, .slice none 0 0, .slice none 0 0, .float .f64 0] _ _ _ _ _ _) := ⟨S8.out.put 8 (.int .u64 (rdv s (q + 16) 8))⟩; generalize World.setCell _ _ _ = wa8 at T8 ⊢; (try clear z); (try clear zf); clear S8)
    | (go_at_call 28; refine Classical.byCases (p := s.size < q + 32) (fun hN => by (refine (large_bad w _ g s (q + 24) (by have := HQ.out; omega) (by omega) T8.out.I T8.out.B).mono ?_; rintro e w' ⟨rfl, hb, hk⟩; exact door_bad w _ g2 g3 _ D 10 _ N23.out T8.out.sz (hk.blk T8.out.K2 T8.out.n2 (by simp)) (hk.blk T8.out.K3 T8.out.n3 (by simp)) L2.out L3.out hb (by rw [HD.out]; exact if_pos hN) rfl rfl)) (fun hN => ?_); have HE : Aside0 (D = d9 s l5 q) := ⟨by rw [HD.out]; exact if_neg hN⟩; have HR : Aside0 (q + 32 ≤ s.size) := ⟨by omega⟩; clear HD HQ hN; have HD := HE; have HQ := HR; clear HE HR; refine (large_ok w _ g s (q + 24) HS.out (by have := HQ.out; omega) T8.out.I T8.out.B).mono ?_; rintro e wb8 ⟨rfl, hi, hb, hk⟩; have S9 := Aside0.mk (T8.out.call hi hb hk); have z := S9.out.c2 9; have zf := S9.out.f2 9; clear hi hb hk T8)
    | (refine wpList_load_row rfl 65 (.tmp 4) rfl g4 rfl 65 #[.pointer (some ⟨g, 0, none⟩)] (0, 0) _ (S9.out.put 9 (.int .u64 (rdv s (q + 24) 8))).K4 Try.underlying65 rfl size65 ?_; have T9 : Aside0 (De w _ g g2 g3 g4 s _ #[.int .i64 (rdv s 0 1), .int .i64 (rdv s 1 1), .int .i64 (rdv s 2 1), .int .u64 (rdv s 3 8), .int .i64 (rdv s 11 1), .slice A5 l5.length c5, .int .u64 (rdv s q 8), .int .u64 (rdv s (q + 8) 8), .int .u64 (rdv s (q + 16) 8), .int .u64 (rdv s (q + 24) 8), .int .u64 0, .int .u64 0, .int .u64 0, .slice none 0 0, .slice none 0 0, .float .f64 0] _ _ _ _ _ _) := ⟨S9.out.put 9 (.int .u64 (rdv s (q + 24) 8))⟩; generalize World.setCell _ _ _ = wa9 at T9 ⊢; (try clear z); (try clear zf); clear S9)
    | (go_at_call 31; refine Classical.byCases (p := s.size < q + 48) (fun hN => by (refine (view_bad w _ g s (q + 32) HS.out (by have := HQ.out; omega) (by omega) T9.out.I T9.out.B).mono ?_; rintro e w' ⟨rfl, hb, hk⟩; exact door_bad w _ g2 g3 _ D 10 _ N23.out T9.out.sz (hk.blk T9.out.K2 T9.out.n2 (by simp)) (hk.blk T9.out.K3 T9.out.n3 (by simp)) L2.out L3.out hb (by rw [HD.out]; exact if_pos hN) rfl rfl)) (fun hN => ?_); have HE : Aside0 (D = d10 s l5 q) := ⟨by rw [HD.out]; exact if_neg hN⟩; have HR : Aside0 (q + 48 ≤ s.size) := ⟨by omega⟩; clear HD HQ hN; have HD := HE; have HQ := HR; clear HE HR; refine (view_ok w _ g s (q + 32) HS.out (by have := HQ.out; omega) T9.out.I T9.out.B).mono ?_; rintro e wb9 ⟨rfl, hi, hb, hk⟩; have S10 := Aside0.mk (T9.out.call hi hb hk); have z := fun j => S10.out.c2 j; have zf := fun j => S10.out.f2 j; clear hi hb hk T9)
    | (refine wpList_load_row rfl 65 (.tmp 4) rfl g4 rfl 65 #[.pointer (some ⟨g, 0, none⟩)] (0, 0) _ ((S10.out.put 10 (.int .u64 (rdv s (q + 32) 8))).put 11 (.int .u64 (rdv s (q + 32 + 8) 8))).K4 Try.underlying65 rfl size65 ?_; have T10 : Aside0 (De w _ g g2 g3 g4 s _ #[.int .i64 (rdv s 0 1), .int .i64 (rdv s 1 1), .int .i64 (rdv s 2 1), .int .u64 (rdv s 3 8), .int .i64 (rdv s 11 1), .slice A5 l5.length c5, .int .u64 (rdv s q 8), .int .u64 (rdv s (q + 8) 8), .int .u64 (rdv s (q + 16) 8), .int .u64 (rdv s (q + 24) 8), .int .u64 (rdv s (q + 32) 8), .int .u64 (rdv s (q + 32 + 8) 8), .int .u64 0, .slice none 0 0, .slice none 0 0, .float .f64 0] _ _ _ _ _ _) := ⟨(S10.out.put 10 (.int .u64 (rdv s (q + 32) 8))).put 11 (.int .u64 (rdv s (q + 32 + 8) 8))⟩; generalize World.setCell _ _ _ = wa10 at T10 ⊢; (try clear z); (try clear zf); clear S10)
    | (go_at_call 28; refine Classical.byCases (p := s.size < q + 56) (fun hN => by (refine (large_bad w _ g s (q + 48) (by have := HQ.out; omega) (by omega) T10.out.I T10.out.B).mono ?_; rintro e w' ⟨rfl, hb, hk⟩; exact door_bad w _ g2 g3 _ D 10 _ N23.out T10.out.sz (hk.blk T10.out.K2 T10.out.n2 (by simp)) (hk.blk T10.out.K3 T10.out.n3 (by simp)) L2.out L3.out hb (by rw [HD.out]; exact if_pos hN) rfl rfl)) (fun hN => ?_); have HE : Aside0 (D = d11 s l5 q) := ⟨by rw [HD.out]; exact if_neg hN⟩; have HR : Aside0 (q + 56 ≤ s.size) := ⟨by omega⟩; clear HD HQ hN; have HD := HE; have HQ := HR; clear HE HR; refine (large_ok w _ g s (q + 48) HS.out (by have := HQ.out; omega) T10.out.I T10.out.B).mono ?_; rintro e wb10 ⟨rfl, hi, hb, hk⟩; have S11 := Aside0.mk (T10.out.call hi hb hk); have z := S11.out.c2 12; have zf := S11.out.f2 12; clear hi hb hk T10)
    | (refine wpList_load_row rfl 65 (.tmp 4) rfl g4 rfl 65 #[.pointer (some ⟨g, 0, none⟩)] (0, 0) _ (S11.out.put 12 (.int .u64 (rdv s (q + 48) 8))).K4 Try.underlying65 rfl size65 ?_; have T11 : Aside0 (De w _ g g2 g3 g4 s _ #[.int .i64 (rdv s 0 1), .int .i64 (rdv s 1 1), .int .i64 (rdv s 2 1), .int .u64 (rdv s 3 8), .int .i64 (rdv s 11 1), .slice A5 l5.length c5, .int .u64 (rdv s q 8), .int .u64 (rdv s (q + 8) 8), .int .u64 (rdv s (q + 16) 8), .int .u64 (rdv s (q + 24) 8), .int .u64 (rdv s (q + 32) 8), .int .u64 (rdv s (q + 32 + 8) 8), .int .u64 (rdv s (q + 48) 8), .slice none 0 0, .slice none 0 0, .float .f64 0] _ _ _ _ _ _) := ⟨S11.out.put 12 (.int .u64 (rdv s (q + 48) 8))⟩; generalize World.setCell _ _ _ = wa11 at T11 ⊢; (try clear z); (try clear zf); clear S11)
    | (refine wpList_load_row rfl 65 (.tmp 4) rfl g4 rfl 65 #[.pointer (some ⟨g, 0, none⟩)] (0, 0) _ T11.out.K4 Try.underlying65 rfl size65 ?_)
    | (go_at_call 32; refine Or.elim (except_or (listI s (itP s) 6 (q + 56))) (fun hN => by (obtain ⟨er, hL⟩ := hN; refine (pc_list_bad w _ g s (q + 56) 6 (by have := HQ.out; omega) HS.out T11.out.I T11.out.B er hL).mono ?_; rintro e w' ⟨rfl, hb, hk⟩; exact door_bad w _ g2 g3 _ D er _ N23.out T11.out.sz (hk.blk T11.out.K2 T11.out.n2 (by simp)) (hk.blk T11.out.K3 T11.out.n3 (by simp)) L2.out L3.out hb (by rw [HD.out]; unfold d11; rw [hL]) rfl rfl)) (fun hN => ?_); obtain ⟨⟨l13, q2⟩, hL⟩ := hN; have HE : Aside0 (D = d12 s l5 q l13 q2) := ⟨by rw [HD.out]; unfold d11; rw [hL]⟩; have HL13 := Aside0.mk hL; clear hL HD; have HD := HE; clear HE; refine (pc_list_ok w _ g s (q + 56) 6 (by have := HQ.out; omega) HS.out T11.out.I T11.out.B l13 q2 HL13.out).mono ?_; rintro e wb11 ⟨v, rfl, ho, hi, hq, hb, hk⟩; obtain ⟨A13, c13, rfl⟩ := Kd.R_slice ho; have HR : Aside0 (q2 ≤ s.size) := ⟨hq⟩; clear HQ; have HQ := HR; clear HR; have S12 := Aside0.mk ((T11.out.call hi hb hk).row13 (Kd.R_mono (Kd.R_lower ho T11.out.B.size) (fun _ _ => trivial))); have z := S12.out.c2 13; have zf := S12.out.f2 13; clear hi hb hk ho hq T11)
    | (refine wpList_load_row rfl 65 (.tmp 4) rfl g4 rfl 65 #[.pointer (some ⟨g, 0, none⟩)] (0, 0) _ (S12.out.put 13 (.slice A13 l13.length c13)).K4 Try.underlying65 rfl size65 ?_; have T12 : Aside0 (De w _ g g2 g3 g4 s _ #[.int .i64 (rdv s 0 1), .int .i64 (rdv s 1 1), .int .i64 (rdv s 2 1), .int .u64 (rdv s 3 8), .int .i64 (rdv s 11 1), .slice A5 l5.length c5, .int .u64 (rdv s q 8), .int .u64 (rdv s (q + 8) 8), .int .u64 (rdv s (q + 16) 8), .int .u64 (rdv s (q + 24) 8), .int .u64 (rdv s (q + 32) 8), .int .u64 (rdv s (q + 32 + 8) 8), .int .u64 (rdv s (q + 48) 8), .slice A13 l13.length c13, .slice none 0 0, .float .f64 0] _ _ _ _ _ _) := ⟨S12.out.put 13 (.slice A13 l13.length c13)⟩; generalize World.setCell _ _ _ = wa12 at T12 ⊢; (try clear z); (try clear zf); clear S12)
    | (refine wpList_load_row rfl 65 (.tmp 4) rfl g4 rfl 65 #[.pointer (some ⟨g, 0, none⟩)] (0, 0) _ T12.out.K4 Try.underlying65 rfl size65 ?_)
    | (go_at_call 34; refine Or.elim (except_or (listI s (itX s) 16 q2)) (fun hN => by (obtain ⟨er, hL⟩ := hN; refine (sp_list_bad w _ g s q2 16 (by have := HQ.out; omega) HS.out T12.out.I T12.out.B er hL).mono ?_; rintro e w' ⟨rfl, hb, hk⟩; exact door_bad w _ g2 g3 _ D er _ N23.out T12.out.sz (hk.blk T12.out.K2 T12.out.n2 (by simp)) (hk.blk T12.out.K3 T12.out.n3 (by simp)) L2.out L3.out hb (by rw [HD.out]; unfold d12; rw [hL]) rfl rfl)) (fun hN => ?_); obtain ⟨⟨l14, q3⟩, hL⟩ := hN; have HE : Aside0 (D = d13 s l5 q l13 l14 q3) := ⟨by rw [HD.out]; unfold d12; rw [hL]⟩; have HL14 := Aside0.mk hL; clear hL HD; have HD := HE; clear HE; refine (sp_list_ok w _ g s q2 16 (by have := HQ.out; omega) HS.out T12.out.I T12.out.B l14 q3 HL14.out).mono ?_; rintro e wb12 ⟨v, rfl, ho, hi, hq, hb, hk⟩; obtain ⟨A14, c14, rfl⟩ := Kd.R_slice ho; have HR : Aside0 (q3 ≤ s.size) := ⟨hq⟩; clear HQ; have HQ := HR; clear HR; have S13 := Aside0.mk ((T12.out.call hi hb hk).row14 (Kd.R_mono (Kd.R_lower ho T12.out.B.size) (fun _ _ => trivial))); have z := S13.out.c2 14; have zf := S13.out.f2 14; clear hi hb hk ho hq T12; have x4 := blk_cell (S13.out.put 14 (.slice A14 l14.length c14)).K4 0))
  have S20 : Aside0 (De w _ g g2 g3 g4 s (q3 : Int) #[.int .i64 (rdv s 0 1), .int .i64 (rdv s 1 1), .int .i64 (rdv s 2 1), .int .u64 (rdv s 3 8), .int .i64 (rdv s 11 1), .slice A5 l5.length c5, .int .u64 (rdv s q 8), .int .u64 (rdv s (q + 8) 8), .int .u64 (rdv s (q + 16) 8), .int .u64 (rdv s (q + 24) 8), .int .u64 (rdv s (q + 32) 8), .int .u64 (rdv s (q + 32 + 8) 8), .int .u64 (rdv s (q + 48) 8), .slice A13 l13.length c13, .slice A14 l14.length c14, .float .f64 0] (.slice A5 l5.length c5) (.slice A13 l13.length c13) (.slice A14 l14.length c14) l5 l13 l14) := ⟨S13.out.put 14 (.slice A14 l14.length c14)⟩
  generalize World.setCell _ _ _ = w20 at S20 x4 ⊢
  clear S13 z zf
  by_cases hN : s.size < q3 + 8
  · have HN := Aside0.mk hN
    clear hN
    go_wp2_with (first
      | (go_at_call 37; refine (real37_bad w _ g s q3 HQ.out HN.out S20.out.I S20.out.B).mono ?_; rintro e w' ⟨x_, rfl, hb, hk⟩; have HB_ := Aside0.mk hb; have HK_ := Aside0.mk hk; clear hb hk)
      | (go_at_call 36; refine (must_flt_bad _ 10 (by decide) _).mono ?_; rintro e w'' ⟨rfl, rfl⟩))
    have hb := HB_.out
    have hk := HK_.out
    exact door_bad w _ g2 g3 _ D 10 _ N23.out S20.out.sz (hk.blk S20.out.K2 S20.out.n2 (by simp)) (hk.blk S20.out.K3 S20.out.n3 (by simp)) L2.out L3.out hb (by rw [HD.out]; exact if_pos HN.out) rfl rfl
  have HD1 : Aside0 (D = d14 s l5 q l13 l14 q3) := ⟨by rw [HD.out]; exact if_neg hN⟩
  clear HD
  have HD := HD1
  have HR : Aside0 (q3 + 8 ≤ s.size) := ⟨by omega⟩
  clear HD1 HQ hN
  by_cases hN : q3 + 8 < s.size
  · have HN := Aside0.mk hN
    clear hN
    go_wp2_with (first
      | (go_at_call 37; refine (real37_ok w _ g s q3 HS.out HR.out S20.out.I S20.out.B).mono ?_; rintro e w21 ⟨rfl, hi, hb, hk⟩; have S21 := Aside0.mk (S20.out.call hi hb hk); have z := S21.out.c2 15; have zf := S21.out.f2 15; have y4 := blk_cell (S21.out.put 15 (.float .f64 (loadF s q3))).K4 0; clear hi hb hk S20 x4)
      | (go_at_call 36; refine (must_flt_ok _ _).mono ?_; rintro e w'' ⟨rfl, rfl⟩)
      | (go_at_call 38; refine (end_more w _ g s (q3 + 8) HS.out HN.out (S21.out.put 15 (.float .f64 (loadF s q3))).I (S21.out.put 15 (.float .f64 (loadF s q3))).B).mono ?_; rintro e w22 ⟨rfl, hi, hb, hk⟩; have S22 := Aside0.mk ((S21.out.put 15 (.float .f64 (loadF s q3))).call hi hb hk); have x5 := blk_cell S22.out.K4 0; clear hi hb hk S21 z zf y4)
      | (go_at_call 38; refine (end_more w _ g s (q3 + 8) HS.out HN.out S22.out.I S22.out.B).mono ?_; rintro e w23 ⟨rfl, hi, hb, hk⟩; have S23 := Aside0.mk (S22.out.call hi hb hk); clear hi hb hk S22 x5))
    have hb := S23.out.B
    exact door_bad w _ g2 g3 _ D 11 _ N23.out S23.out.sz S23.out.K2 S23.out.K3 L2.out L3.out hb (by rw [HD.out]; exact if_pos HN.out) rfl rfl
  have HD1 : Aside0 (D = d15 s l5 q l13 l14 q3) := ⟨by rw [HD.out]; exact if_neg hN⟩
  clear HD
  have HD := HD1
  have HE : Aside0 (q3 + 8 = s.size) := ⟨by have := HR.out; omega⟩
  clear HD1 hN
  have hi32 : (Try.prog.info? 32).map (·.size) = some 16 := by kernel_rfl
  by_cases h1 : rdv s 0 1 < 1
  · have H1 := Aside0.mk h1
    go_wp2_with (first
      | (go_at_call 37; refine (real37_ok w _ g s q3 HS.out HR.out S20.out.I S20.out.B).mono ?_; rintro e w21 ⟨rfl, hi, hb, hk⟩; have S21 := Aside0.mk (S20.out.call hi hb hk); have z := S21.out.c2 15; have zf := S21.out.f2 15; have y4 := blk_cell (S21.out.put 15 (.float .f64 (loadF s q3))).K4 0; clear hi hb hk S20 x4)
      | (go_at_call 36; refine (must_flt_ok _ _).mono ?_; rintro e w'' ⟨rfl, rfl⟩)
      | (go_at_call 38; refine (end_done w _ g s (q3 + 8) HS.out HE.out (S21.out.put 15 (.float .f64 (loadF s q3))).I (S21.out.put 15 (.float .f64 (loadF s q3))).B).mono ?_; rintro e w22 ⟨rfl, hi, hb, hk⟩; have S22 : Aside0 (De w w22 g g2 g3 g4 s ((q3 + 8 : Nat) : Int) #[.int .i64 (rdv s 0 1), .int .i64 (rdv s 1 1), .int .i64 (rdv s 2 1), .int .u64 (rdv s 3 8), .int .i64 (rdv s 11 1), .slice A5 l5.length c5, .int .u64 (rdv s q 8), .int .u64 (rdv s (q + 8) 8), .int .u64 (rdv s (q + 16) 8), .int .u64 (rdv s (q + 24) 8), .int .u64 (rdv s (q + 32) 8), .int .u64 (rdv s (q + 32 + 8) 8), .int .u64 (rdv s (q + 48) 8), .slice A13 l13.length c13, .slice A14 l14.length c14, .float .f64 (loadF s q3)] (.slice A5 l5.length c5) (.slice A13 l13.length c13) (.slice A14 l14.length c14) l5 l13 l14) := ⟨(S21.out.put 15 (.float .f64 (loadF s q3))).call hi hb hk⟩; have z := S22.out.c2 0; clear hi hb hk S21 zf y4))
    have hb := S22.out.B
    exact door_bad w _ g2 g3 _ D 150 _ N23.out S22.out.sz S22.out.K2 S22.out.K3 L2.out L3.out hb (by rw [HD.out]; exact if_pos (.inl H1.out)) rfl rfl
  by_cases h2 : 14 < rdv s 0 1
  · have H2 := Aside0.mk h2
    go_wp2_with (first
      | (go_at_call 37; refine (real37_ok w _ g s q3 HS.out HR.out S20.out.I S20.out.B).mono ?_; rintro e w21 ⟨rfl, hi, hb, hk⟩; have S21 := Aside0.mk (S20.out.call hi hb hk); have z := S21.out.c2 15; have zf := S21.out.f2 15; have y4 := blk_cell (S21.out.put 15 (.float .f64 (loadF s q3))).K4 0; clear hi hb hk S20 x4)
      | (go_at_call 36; refine (must_flt_ok _ _).mono ?_; rintro e w'' ⟨rfl, rfl⟩)
      | (go_at_call 38; refine (end_done w _ g s (q3 + 8) HS.out HE.out (S21.out.put 15 (.float .f64 (loadF s q3))).I (S21.out.put 15 (.float .f64 (loadF s q3))).B).mono ?_; rintro e w22 ⟨rfl, hi, hb, hk⟩; have S22 : Aside0 (De w w22 g g2 g3 g4 s ((q3 + 8 : Nat) : Int) #[.int .i64 (rdv s 0 1), .int .i64 (rdv s 1 1), .int .i64 (rdv s 2 1), .int .u64 (rdv s 3 8), .int .i64 (rdv s 11 1), .slice A5 l5.length c5, .int .u64 (rdv s q 8), .int .u64 (rdv s (q + 8) 8), .int .u64 (rdv s (q + 16) 8), .int .u64 (rdv s (q + 24) 8), .int .u64 (rdv s (q + 32) 8), .int .u64 (rdv s (q + 32 + 8) 8), .int .u64 (rdv s (q + 48) 8), .slice A13 l13.length c13, .slice A14 l14.length c14, .float .f64 (loadF s q3)] (.slice A5 l5.length c5) (.slice A13 l13.length c13) (.slice A14 l14.length c14) l5 l13 l14) := ⟨(S21.out.put 15 (.float .f64 (loadF s q3))).call hi hb hk⟩; have z := S22.out.c2 0; clear hi hb hk S21 zf y4))
    have hb := S22.out.B
    exact door_bad w _ g2 g3 _ D 150 _ N23.out S22.out.sz S22.out.K2 S22.out.K3 L2.out L3.out hb (by rw [HD.out]; exact if_pos (.inr H2.out)) rfl rfl
  have HD1 : Aside0 (D = d16 s l5 q l13 l14 q3) := ⟨by rw [HD.out]; exact if_neg (by rintro (h | h); exact h1 h; exact h2 h)⟩
  clear HD
  have HD := HD1
  clear HD1
  cases hM : mayL (rdv s 0 1) (rdv s 1 1) (rdv s 2 1) (rdv s 11 1) l5 l13 l14 (loadF s q3)
  · have HM := Aside0.mk hM
    clear hM
    go_wp2_with (first
      | (go_at_call 37; refine (real37_ok w _ g s q3 HS.out HR.out S20.out.I S20.out.B).mono ?_; rintro e w21 ⟨rfl, hi, hb, hk⟩; have S21 := Aside0.mk (S20.out.call hi hb hk); have z := S21.out.c2 15; have zf := S21.out.f2 15; have y4 := blk_cell (S21.out.put 15 (.float .f64 (loadF s q3))).K4 0; clear hi hb hk S20 x4)
      | (go_at_call 36; refine (must_flt_ok _ _).mono ?_; rintro e w'' ⟨rfl, rfl⟩)
      | (go_at_call 38; refine (end_done w _ g s (q3 + 8) HS.out HE.out (S21.out.put 15 (.float .f64 (loadF s q3))).I (S21.out.put 15 (.float .f64 (loadF s q3))).B).mono ?_; rintro e w22 ⟨rfl, hi, hb, hk⟩; have S22 : Aside0 (De w w22 g g2 g3 g4 s ((q3 + 8 : Nat) : Int) #[.int .i64 (rdv s 0 1), .int .i64 (rdv s 1 1), .int .i64 (rdv s 2 1), .int .u64 (rdv s 3 8), .int .i64 (rdv s 11 1), .slice A5 l5.length c5, .int .u64 (rdv s q 8), .int .u64 (rdv s (q + 8) 8), .int .u64 (rdv s (q + 16) 8), .int .u64 (rdv s (q + 24) 8), .int .u64 (rdv s (q + 32) 8), .int .u64 (rdv s (q + 32 + 8) 8), .int .u64 (rdv s (q + 48) 8), .slice A13 l13.length c13, .slice A14 l14.length c14, .float .f64 (loadF s q3)] (.slice A5 l5.length c5) (.slice A13 l13.length c13) (.slice A14 l14.length c14) l5 l13 l14) := ⟨(S21.out.put 15 (.float .f64 (loadF s q3))).call hi hb hk⟩; have z := S22.out.c2 0; clear hi hb hk S21 zf y4)
      | (refine wpList_load_row rfl 32 (.tmp 2) rfl g2 rfl 32 #[.int .i64 (rdv s 0 1), .int .i64 (rdv s 1 1), .int .i64 (rdv s 2 1), .int .u64 (rdv s 3 8), .int .i64 (rdv s 11 1), .slice A5 l5.length c5, .int .u64 (rdv s q 8), .int .u64 (rdv s (q + 8) 8), .int .u64 (rdv s (q + 16) 8), .int .u64 (rdv s (q + 24) 8), .int .u64 (rdv s (q + 32) 8), .int .u64 (rdv s (q + 32 + 8) 8), .int .u64 (rdv s (q + 48) 8), .slice A13 l13.length c13, .slice A14 l14.length c14, .float .f64 (loadF s q3)] (0, 0) _ S22.out.K2 Try.underlying32 rfl hi32 ?_)
      | (go_at_call 18; refine (may_at (rdv s 0 1) (rdv s 1 1) (rdv s 2 1) (rdv s 3 8) (rdv s 11 1) A5 c5 l5 (rdv s q 8) (rdv s (q + 8) 8) (rdv s (q + 16) 8) (rdv s (q + 24) 8) (rdv s (q + 32) 8) (rdv s (q + 32 + 8) 8) (rdv s (q + 48) 8) A13 c13 l13 A14 c14 l14 (loadF s q3) _ (Kd.R_reads' S22.out.R5).2.2 (Kd.R_reads' S22.out.R5).2.1 (Kd.R_reads' S22.out.R13).2.2 (Kd.R_reads' S22.out.R13).2.1 (Kd.R_reads' S22.out.R14).2.2 (Kd.R_reads' S22.out.R14).2.1).mono ?_; rintro e w23 ⟨rfl, hb⟩; rw [HM.out]; have S23 := Aside0.mk (S22.out.below hb); clear hb z S22))
    have hb := S23.out.B
    exact door_bad w _ g2 g3 _ D 1 _ N23.out S23.out.sz S23.out.K2 S23.out.K3 L2.out L3.out hb (by rw [HD.out]; exact if_pos HM.out) rfl rfl
  · have HM := Aside0.mk hM
    clear hM
    go_wp2_with (first
      | (go_at_call 37; refine (real37_ok w _ g s q3 HS.out HR.out S20.out.I S20.out.B).mono ?_; rintro e w21 ⟨rfl, hi, hb, hk⟩; have S21 := Aside0.mk (S20.out.call hi hb hk); have z := S21.out.c2 15; have zf := S21.out.f2 15; have y4 := blk_cell (S21.out.put 15 (.float .f64 (loadF s q3))).K4 0; clear hi hb hk S20 x4)
      | (go_at_call 36; refine (must_flt_ok _ _).mono ?_; rintro e w'' ⟨rfl, rfl⟩)
      | (go_at_call 38; refine (end_done w _ g s (q3 + 8) HS.out HE.out (S21.out.put 15 (.float .f64 (loadF s q3))).I (S21.out.put 15 (.float .f64 (loadF s q3))).B).mono ?_; rintro e w22 ⟨rfl, hi, hb, hk⟩; have S22 : Aside0 (De w w22 g g2 g3 g4 s ((q3 + 8 : Nat) : Int) #[.int .i64 (rdv s 0 1), .int .i64 (rdv s 1 1), .int .i64 (rdv s 2 1), .int .u64 (rdv s 3 8), .int .i64 (rdv s 11 1), .slice A5 l5.length c5, .int .u64 (rdv s q 8), .int .u64 (rdv s (q + 8) 8), .int .u64 (rdv s (q + 16) 8), .int .u64 (rdv s (q + 24) 8), .int .u64 (rdv s (q + 32) 8), .int .u64 (rdv s (q + 32 + 8) 8), .int .u64 (rdv s (q + 48) 8), .slice A13 l13.length c13, .slice A14 l14.length c14, .float .f64 (loadF s q3)] (.slice A5 l5.length c5) (.slice A13 l13.length c13) (.slice A14 l14.length c14) l5 l13 l14) := ⟨(S21.out.put 15 (.float .f64 (loadF s q3))).call hi hb hk⟩; have z := S22.out.c2 0; clear hi hb hk S21 zf y4)
      | (refine wpList_load_row rfl 32 (.tmp 2) rfl g2 rfl 32 #[.int .i64 (rdv s 0 1), .int .i64 (rdv s 1 1), .int .i64 (rdv s 2 1), .int .u64 (rdv s 3 8), .int .i64 (rdv s 11 1), .slice A5 l5.length c5, .int .u64 (rdv s q 8), .int .u64 (rdv s (q + 8) 8), .int .u64 (rdv s (q + 16) 8), .int .u64 (rdv s (q + 24) 8), .int .u64 (rdv s (q + 32) 8), .int .u64 (rdv s (q + 32 + 8) 8), .int .u64 (rdv s (q + 48) 8), .slice A13 l13.length c13, .slice A14 l14.length c14, .float .f64 (loadF s q3)] (0, 0) _ S22.out.K2 Try.underlying32 rfl hi32 ?_)
      | (go_at_call 18; refine (may_at (rdv s 0 1) (rdv s 1 1) (rdv s 2 1) (rdv s 3 8) (rdv s 11 1) A5 c5 l5 (rdv s q 8) (rdv s (q + 8) 8) (rdv s (q + 16) 8) (rdv s (q + 24) 8) (rdv s (q + 32) 8) (rdv s (q + 32 + 8) 8) (rdv s (q + 48) 8) A13 c13 l13 A14 c14 l14 (loadF s q3) _ (Kd.R_reads' S22.out.R5).2.2 (Kd.R_reads' S22.out.R5).2.1 (Kd.R_reads' S22.out.R13).2.2 (Kd.R_reads' S22.out.R13).2.1 (Kd.R_reads' S22.out.R14).2.2 (Kd.R_reads' S22.out.R14).2.1).mono ?_; rintro e w23 ⟨rfl, hb⟩; rw [HM.out]; have S23 := Aside0.mk (S22.out.below hb); clear hb z S22)
      | (refine wpList_load_row rfl 32 (.tmp 2) rfl g2 rfl 32 #[.int .i64 (rdv s 0 1), .int .i64 (rdv s 1 1), .int .i64 (rdv s 2 1), .int .u64 (rdv s 3 8), .int .i64 (rdv s 11 1), .slice A5 l5.length c5, .int .u64 (rdv s q 8), .int .u64 (rdv s (q + 8) 8), .int .u64 (rdv s (q + 16) 8), .int .u64 (rdv s (q + 24) 8), .int .u64 (rdv s (q + 32) 8), .int .u64 (rdv s (q + 32 + 8) 8), .int .u64 (rdv s (q + 48) 8), .slice A13 l13.length c13, .slice A14 l14.length c14, .float .f64 (loadF s q3)] (0, 0) _ S23.out.K2 Try.underlying32 rfl hi32 ?_)
      | ((with_reducible refine gate_store (t := 32) (p := 2) rfl ?_); go_loud (refine wpList_store_row rfl 32 (.tmp 2) (.tmp 89) rfl g2 #[.int .i64 (rdv s 0 1), .int .i64 (rdv s 1 1), .int .i64 (rdv s 2 1), .int .u64 (rdv s 3 8), .int .i64 (rdv s 11 1), .slice A5 l5.length c5, .int .u64 (rdv s q 8), .int .u64 (rdv s (q + 8) 8), .int .u64 (rdv s (q + 16) 8), .int .u64 (rdv s (q + 24) 8), .int .u64 (rdv s (q + 32) 8), .int .u64 (rdv s (q + 32 + 8) 8), .int .u64 (rdv s (q + 48) 8), .slice A13 l13.length c13, .slice A14 l14.length c14, .float .f64 (loadF s q3)] rfl rfl 32 #[.int .i64 (rdv s 0 1), .int .i64 (rdv s 1 1), .int .i64 (rdv s 2 1), .int .u64 (rdv s 3 8), .int .i64 (rdv s 11 1), .slice A5 l5.length c5, .int .u64 (rdv s q 8), .int .u64 (rdv s (q + 8) 8), .int .u64 (rdv s (q + 16) 8), .int .u64 (rdv s (q + 24) 8), .int .u64 (rdv s (q + 32) 8), .int .u64 (rdv s (q + 32 + 8) 8), .int .u64 (rdv s (q + 48) 8), .slice A13 l13.length c13, .slice A14 l14.length c14, .float .f64 (loadF s q3)] S23.out.K2 hi32 rfl (one_L _ _ _ _ _ _ _ _ _ _ _ _ _ _ _ _ _ _ _ _ _ _) ?_); have RK2 := Aside0.mk (setRow_heap w23 g2 #[.int .i64 (rdv s 0 1), .int .i64 (rdv s 1 1), .int .i64 (rdv s 2 1), .int .u64 (rdv s 3 8), .int .i64 (rdv s 11 1), .slice A5 l5.length c5, .int .u64 (rdv s q 8), .int .u64 (rdv s (q + 8) 8), .int .u64 (rdv s (q + 16) 8), .int .u64 (rdv s (q + 24) 8), .int .u64 (rdv s (q + 32) 8), .int .u64 (rdv s (q + 32 + 8) 8), .int .u64 (rdv s (q + 48) 8), .slice A13 l13.length c13, .slice A14 l14.length c14, .float .f64 (loadF s q3)] #[.int .i64 (rdv s 0 1), .int .i64 (rdv s 1 1), .int .i64 (rdv s 2 1), .int .u64 (rdv s 3 8), .int .i64 (rdv s 11 1), .slice A5 l5.length c5, .int .u64 (rdv s q 8), .int .u64 (rdv s (q + 8) 8), .int .u64 (rdv s (q + 16) 8), .int .u64 (rdv s (q + 24) 8), .int .u64 (rdv s (q + 32) 8), .int .u64 (rdv s (q + 32 + 8) 8), .int .u64 (rdv s (q + 48) 8), .slice A13 l13.length c13, .slice A14 l14.length c14, .float .f64 (loadF s q3)] 32 (0, 0) S23.out.K2); have RK3 := Aside0.mk ((setRow_other w23 g2 g3 #[.int .i64 (rdv s 0 1), .int .i64 (rdv s 1 1), .int .i64 (rdv s 2 1), .int .u64 (rdv s 3 8), .int .i64 (rdv s 11 1), .slice A5 l5.length c5, .int .u64 (rdv s q 8), .int .u64 (rdv s (q + 8) 8), .int .u64 (rdv s (q + 16) 8), .int .u64 (rdv s (q + 24) 8), .int .u64 (rdv s (q + 32) 8), .int .u64 (rdv s (q + 32 + 8) 8), .int .u64 (rdv s (q + 48) 8), .slice A13 l13.length c13, .slice A14 l14.length c14, .float .f64 (loadF s q3)] (Ne.symm N23.out)).trans S23.out.K3); have RB := Aside0.mk (below_setRow S23.out.B L2.out #[.int .i64 (rdv s 0 1), .int .i64 (rdv s 1 1), .int .i64 (rdv s 2 1), .int .u64 (rdv s 3 8), .int .i64 (rdv s 11 1), .slice A5 l5.length c5, .int .u64 (rdv s q 8), .int .u64 (rdv s (q + 8) 8), .int .u64 (rdv s (q + 16) 8), .int .u64 (rdv s (q + 24) 8), .int .u64 (rdv s (q + 32) 8), .int .u64 (rdv s (q + 32 + 8) 8), .int .u64 (rdv s (q + 48) 8), .slice A13 l13.length c13, .slice A14 l14.length c14, .float .f64 (loadF s q3)]); have RR5 := Aside0.mk (row_step S23.out.R5 S23.out.K2 (by decide) #[.int .i64 (rdv s 0 1), .int .i64 (rdv s 1 1), .int .i64 (rdv s 2 1), .int .u64 (rdv s 3 8), .int .i64 (rdv s 11 1), .slice A5 l5.length c5, .int .u64 (rdv s q 8), .int .u64 (rdv s (q + 8) 8), .int .u64 (rdv s (q + 16) 8), .int .u64 (rdv s (q + 24) 8), .int .u64 (rdv s (q + 32) 8), .int .u64 (rdv s (q + 32 + 8) 8), .int .u64 (rdv s (q + 48) 8), .slice A13 l13.length c13, .slice A14 l14.length c14, .float .f64 (loadF s q3)]); have RR13 := Aside0.mk (row_step S23.out.R13 S23.out.K2 (by decide) #[.int .i64 (rdv s 0 1), .int .i64 (rdv s 1 1), .int .i64 (rdv s 2 1), .int .u64 (rdv s 3 8), .int .i64 (rdv s 11 1), .slice A5 l5.length c5, .int .u64 (rdv s q 8), .int .u64 (rdv s (q + 8) 8), .int .u64 (rdv s (q + 16) 8), .int .u64 (rdv s (q + 24) 8), .int .u64 (rdv s (q + 32) 8), .int .u64 (rdv s (q + 32 + 8) 8), .int .u64 (rdv s (q + 48) 8), .slice A13 l13.length c13, .slice A14 l14.length c14, .float .f64 (loadF s q3)]); have RR14 := Aside0.mk (row_step S23.out.R14 S23.out.K2 (by decide) #[.int .i64 (rdv s 0 1), .int .i64 (rdv s 1 1), .int .i64 (rdv s 2 1), .int .u64 (rdv s 3 8), .int .i64 (rdv s 11 1), .slice A5 l5.length c5, .int .u64 (rdv s q 8), .int .u64 (rdv s (q + 8) 8), .int .u64 (rdv s (q + 16) 8), .int .u64 (rdv s (q + 24) 8), .int .u64 (rdv s (q + 32) 8), .int .u64 (rdv s (q + 32 + 8) 8), .int .u64 (rdv s (q + 48) 8), .slice A13 l13.length c13, .slice A14 l14.length c14, .float .f64 (loadF s q3)]); generalize World.setRow w23 g2 _ = w24 at RK2 RK3 RB RR5 RR13 RR14 ⊢; have z3 := blk_cell RK3.out 0; have zf3 := blk_frozen RK3.out 0; clear S23))
    have Q2 := blk_far (p := ⟨g3, 0, none⟩) RK2.out N23.out (.int .i64 0)
    have Q3 := blk_put RK3.out 0 (.int .i64 0) rfl
    exact door_ok w _ g2 g3 (letterOf s l5 q l13 l14 q3) (.slice A5 l5.length c5) (.slice A13 l13.length c13) (.slice A14 l14.length c14) D _ Q2 Q3 (below_set RB.out L3.out) (by rw [HD.out]; exact if_neg (by rw [HM.out]; decide))
      (Kd.R_mono (Kd.R_far (p := ⟨g3, 0, none⟩) (Kd.R_types RR5.out RK3.out (by decide)) (fun _ h => h.2) _) (fun _ _ => trivial)) (Kd.R_mono (Kd.R_far (p := ⟨g3, 0, none⟩) (Kd.R_types RR13.out RK3.out (by decide)) (fun _ h => h.2) _) (fun _ _ => trivial)) (Kd.R_mono (Kd.R_far (p := ⟨g3, 0, none⟩) (Kd.R_types RR14.out RK3.out (by decide)) (fun _ h => h.2) _) (fun _ _ => trivial)) rfl rfl
end Go.Proofs.Ytondgoabnmgcaaa.B
end
section
/- By hand: 'theirs' (printed by theirs.py). -/
namespace Go.Proofs.Ytondgoabnmgcaaa.B
open Go.RowKit Go.Proofs.YtondgoabnmgcaaaW.PrintWords Go.Proofs.YtondgoabnmgcaaaW.PrintLast Go.Proofs.YtondgoabnmgcaaaW.PrintMore
set_option linter.unusedSimpArgs false
set_option linter.unusedVariables false
def to90 (p : S53) : S90 := ⟨p.f0, p.f1⟩
theorem info90 : (Try.prog.info? 90).map (fun i => (i.zero, i.size, i.bytes)) = some (some (.agg #[(.int .u64 0), (.int .i64 0), (.int .u64 0), (.string ⟨#[]⟩)]), 4, 40) := by kernel_rfl
theorem si38 : (Try.prog.info? 38).map (·.size) = some 16 := by kernel_rfl
theorem own_typed' {α : Type} {d : Kd α} {e base : Nat} {ok : Nat → Prop} {w : World} {v : Value} {xs : List α} (h : Kd.R d e w base ok v xs) (k : Nat) (hk : v.ownBlock = some k) {cs : Array Value} {t : TypeId} (hb : w.heap[k]? = some (.cells cs t (0, 0))) : e = t := by
  obtain ⟨inner, ho, _⟩ := h.2
  obtain ⟨cells, hc⟩ := own_typed ho k hk
  rw [hc] at hb
  injection hb with hb
  injection hb
theorem row_step38 {w : World} {g : Nat} {cs : Array Value} {v : Value} {α : Type} {d : Kd α} {e base : Nat} {l : List α} (h : Kd.R d e w base (fun _ => True) v l) (hb : w.heap[g]? = some (.cells cs 38 (0, 0))) (ht : ∀ q, q ∈ e :: d.E → q ≠ 38) (cs' : Array Value) : Kd.R d e (w.setRow g cs') base (fun _ => True) v l := 
  Kd.R_mono (Kd.R_step (Kd.R_types h hb ht) (fun k hk _ => setRow_other w g k cs' hk.2)) (fun _ _ => trivial)
set_option maxRecDepth 100000 in
set_option maxHeartbeats 4000000 in
theorem theirs_at (a0 a1 a2 a3 a4 : Int) (A5 : Option Addr) (c5 : Nat) (l5 : List S70) (a6 a7 a8 a9 a10 a11 a12 : Int) (A13 : Option Addr) (c13 : Nat) (l13 : List S53) (A14 : Option Addr) (c14 : Nat) (l14 : List S77) (a15 : Nat) (w : World) (hr5 : Kd.C k70 w A5 l5.length l5) (hr13 : Kd.C k53 w A13 l13.length l13) (hr14 : Kd.C k77 w A14 l14.length l14) (hl : l13.length ≤ 1000) :
    Calls Try.prog 13 #[.agg #[.int .i64 a0, .int .i64 a1, .int .i64 a2, .int .u64 a3, .int .i64 a4, .slice A5 l5.length c5, .int .u64 a6, .int .u64 a7, .int .u64 a8, .int .u64 a9, .int .u64 a10, .int .u64 a11, .int .u64 a12, .slice A13 l13.length c13, .slice A14 l14.length c14, .float .f64 a15]] w fun e w' => ∃ v, e = .returned (.agg #[.int .i64 a0, .int .i64 a1, .int .i64 a2, .int .u64 a3, .int .i64 a4, .slice A5 l5.length c5, .int .u64 a6, .int .u64 a7, .int .u64 a8, .int .u64 a9, .int .u64 a10, .int .u64 a11, .int .u64 a12, v, .slice A14 l14.length c14, .float .f64 a15]) ∧ Kd.R k90 90 w' w.heap.size (fun _ => True) v (l13.map to90) ∧ Below w.heap.size w w' := by
  have H13 := Aside0.mk hr13
  have si38 := si38
  have hlen : (l13.length : Int) ≤ 9223372036854775807 := by omega
  have HL := Aside0.mk hl
  clear hr5 hr13 hr14 hl
  go_enter Try.func13, Try.ntmps13
  go_wp2_with (first
    | ((with_reducible refine gate_dst (N := 1) rfl ?_); refine box_event ?hg (N := 1) ?hd (cs := #[.int .i64 a0, .int .i64 a1, .int .i64 a2, .int .u64 a3, .int .i64 a4, .slice A5 l5.length c5, .int .u64 a6, .int .u64 a7, .int .u64 a8, .int .u64 a9, .int .u64 a10, .int .u64 a11, .int .u64 a12, .slice A13 l13.length c13, .slice A14 l14.length c14, .float .f64 a15]) (t := 32) ?hr ?_; (case hd => rfl); (case hg => rfl); (case hr => first | (go_simp; done) | (go_simp; rfl)); intro g1 hg_ w1 hb_ hB_; have K1 := Aside0.mk hb_; have B1 := Aside0.mk hB_; have x := fun j => blk_cell K1.out j; clear hg_ hb_ hB_)
    | ((with_reducible refine gate_dst (N := 2) rfl ?_); refine box_event ?hg (N := 2) ?hd (cs := #[.int .i64 0, .int .i64 0, .int .i64 0, .int .u64 0, .int .i64 0, .slice none 0 0, .int .u64 0, .int .u64 0, .int .u64 0, .int .u64 0, .int .u64 0, .int .u64 0, .int .u64 0, .slice none 0 0, .slice none 0 0, .float .f64 0]) (t := 38) ?hr ?_; (case hd => rfl); (case hg => rfl); (case hr => first | (go_simp; done) | (go_simp; rfl)); intro g2 hg_ w2 hb_ hB_; have K2 := Aside0.mk hb_; have K1b := Aside0.mk (blk_below K1.out hB_); have B2 := Aside0.mk (below_step B1.out hB_); have L2 := Aside0.mk (show w.heap.size ≤ g2 by rw [hg_]; exact B1.out.size); clear x hg_ hb_ hB_; have x := fun j => blk_cell K1b.out j)
    | ((with_reducible refine gate_dst (N := 3) rfl ?_); refine box_event ?hg (N := 3) ?hd (cs := #[.int .i64 0, .int .i64 0, .int .i64 0, .int .u64 0, .int .i64 0, .slice none 0 0, .int .u64 0, .int .u64 0, .int .u64 0, .int .u64 0, .int .u64 0, .int .u64 0, .int .u64 0, .slice none 0 0, .slice none 0 0, .float .f64 0]) (t := 38) ?hr ?_; (case hd => rfl); (case hg => rfl); (case hr => first | (go_simp; done) | (go_simp; rfl)); intro g3 hg_ w3 hb_ hB_; have K3 := Aside0.mk hb_; have K1c := Aside0.mk (blk_below K1b.out hB_); have K2c := Aside0.mk (blk_below K2.out hB_); have B3 := Aside0.mk (below_step B2.out hB_); have L3 := Aside0.mk (show w.heap.size ≤ g3 by rw [hg_]; exact B2.out.size); have N13 := Aside0.mk (show g1 ≠ g3 by have := blk_lt K1b.out; omega); have N23 := Aside0.mk (show g2 ≠ g3 by have := blk_lt K2.out; omega); clear x K1 K1b K2 B1 B2 hg_ hb_ hB_; have x := fun j => blk_cell K1c.out j)
    | ((with_reducible refine gate_store (t := 38) (p := 3) rfl ?_); go_loud (refine wpList_store_row rfl 38 (.tmp 3) (.tmp 31) rfl g3 #[.int .i64 a0, .int .i64 a1, .int .i64 a2, .int .u64 a3, .int .i64 a4, .slice A5 l5.length c5, .int .u64 a6, .int .u64 a7, .int .u64 a8, .int .u64 a9, .int .u64 a10, .int .u64 a11, .int .u64 a12, .slice none 0 0, .slice A14 l14.length c14, .float .f64 a15] rfl rfl 38 #[.int .i64 0, .int .i64 0, .int .i64 0, .int .u64 0, .int .i64 0, .slice none 0 0, .int .u64 0, .int .u64 0, .int .u64 0, .int .u64 0, .int .u64 0, .int .u64 0, .int .u64 0, .slice none 0 0, .slice none 0 0, .float .f64 0] K3.out si38 rfl (one_L _ _ _ _ _ _ _ _ _ _ _ _ _ _ _ _ _ _ _ _ _ _) ?_); have K3d := Aside0.mk (setRow_heap w3 g3 #[.int .i64 0, .int .i64 0, .int .i64 0, .int .u64 0, .int .i64 0, .slice none 0 0, .int .u64 0, .int .u64 0, .int .u64 0, .int .u64 0, .int .u64 0, .int .u64 0, .int .u64 0, .slice none 0 0, .slice none 0 0, .float .f64 0] #[.int .i64 a0, .int .i64 a1, .int .i64 a2, .int .u64 a3, .int .i64 a4, .slice A5 l5.length c5, .int .u64 a6, .int .u64 a7, .int .u64 a8, .int .u64 a9, .int .u64 a10, .int .u64 a11, .int .u64 a12, .slice none 0 0, .slice A14 l14.length c14, .float .f64 a15] 38 (0, 0) K3.out); have K1d := Aside0.mk ((setRow_other w3 g3 g1 #[.int .i64 a0, .int .i64 a1, .int .i64 a2, .int .u64 a3, .int .i64 a4, .slice A5 l5.length c5, .int .u64 a6, .int .u64 a7, .int .u64 a8, .int .u64 a9, .int .u64 a10, .int .u64 a11, .int .u64 a12, .slice none 0 0, .slice A14 l14.length c14, .float .f64 a15] N13.out).trans K1c.out); have K2d := Aside0.mk ((setRow_other w3 g3 g2 #[.int .i64 a0, .int .i64 a1, .int .i64 a2, .int .u64 a3, .int .i64 a4, .slice A5 l5.length c5, .int .u64 a6, .int .u64 a7, .int .u64 a8, .int .u64 a9, .int .u64 a10, .int .u64 a11, .int .u64 a12, .slice none 0 0, .slice A14 l14.length c14, .float .f64 a15] N23.out).trans K2c.out); have B4 := Aside0.mk (below_setRow B3.out L3.out #[.int .i64 a0, .int .i64 a1, .int .i64 a2, .int .u64 a3, .int .i64 a4, .slice A5 l5.length c5, .int .u64 a6, .int .u64 a7, .int .u64 a8, .int .u64 a9, .int .u64 a10, .int .u64 a11, .int .u64 a12, .slice none 0 0, .slice A14 l14.length c14, .float .f64 a15]); generalize World.setRow w3 g3 _ = w4 at K3d K1d K2d B4 ⊢; clear x K3 K1c K2c B3))
  go_loopw [4] (fun i wr => ∃ (j : Nat) (v : Value), i = .int .i64 j ∧ Aside0 (j ≤ l13.length) ∧ Aside0 (wr.heap[g1]? = some (.cells #[.int .i64 a0, .int .i64 a1, .int .i64 a2, .int .u64 a3, .int .i64 a4, .slice A5 l5.length c5, .int .u64 a6, .int .u64 a7, .int .u64 a8, .int .u64 a9, .int .u64 a10, .int .u64 a11, .int .u64 a12, .slice A13 l13.length c13, .slice A14 l14.length c14, .float .f64 a15] 32 (0, 0))) ∧ Aside0 (wr.heap[g2]? = some (.cells #[.int .i64 0, .int .i64 0, .int .i64 0, .int .u64 0, .int .i64 0, .slice none 0 0, .int .u64 0, .int .u64 0, .int .u64 0, .int .u64 0, .int .u64 0, .int .u64 0, .int .u64 0, .slice none 0 0, .slice none 0 0, .float .f64 0] 38 (0, 0))) ∧ Aside0 (wr.heap[g3]? = some (.cells #[.int .i64 a0, .int .i64 a1, .int .i64 a2, .int .u64 a3, .int .i64 a4, .slice A5 l5.length c5, .int .u64 a6, .int .u64 a7, .int .u64 a8, .int .u64 a9, .int .u64 a10, .int .u64 a11, .int .u64 a12, v, .slice A14 l14.length c14, .float .f64 a15] 38 (0, 0))) ∧ Aside0 (Kd.R k90 90 wr w.heap.size (fun b => b ≠ g3) v ((l13.take j).map to90)) ∧ Aside0 (Below w.heap.size w wr))
    (fun i _ => l13.length - (intOf i).toNat)
  case atStart => exact ⟨0, .slice none 0 0, rfl, ⟨Nat.zero_le _⟩, K1d, K2d, K3d, ⟨Kd.R_nil _ _ _ _ _⟩, B4⟩
  case round =>
    obtain ⟨j, v, rfl, hj, K1, K2, K3, HO, HB⟩ := hrel
    clear K1d K2d K3d B4
    have x := fun i => blk_cell K1.out i
    by_cases hlt : j < l13.length
    · have HRr := Kd.C_below H13.out HB.out
      obtain ⟨ad, e, hy0, hy1, hy2, hy3⟩ := at_T53 HRr (j : Int) (by omega) (by have := HRr.2.1; omega)
      simp only [Int.toNat_natCast] at hy0 hy1 hy2 hy3
      obtain rfl := e
      obtain ⟨p, hp⟩ : ∃ p, p = rd_T53 l13 (j : Int) := ⟨_, rfl⟩
      have hlp : l13[j]? = some p := by
        rw [hp]
        unfold rd_T53
        rw [Int.toNat_natCast, List.getD_eq_getElem?_getD, List.getElem?_eq_getElem hlt]; rfl
      have HTK : Aside0 ((l13.take (j + 1)).map to90 = (l13.take j).map to90 ++ [to90 p]) := ⟨by
        obtain ⟨h1, h2⟩ := List.getElem?_eq_some_iff.1 hlp
        rw [List.take_succ_eq_append_getElem h1, List.map_append, h2]; rfl⟩
      rw [← hp] at hy0 hy1 hy2 hy3
      clear hp hlp HRr
      obtain ⟨f0, f1, f2, f3⟩ := p
      dsimp only at hy0 hy1 hy2 hy3
      have E0 : Aside0 (wr.drew.cell? (ad.add (j * 4)) = some (.int .u64 f0)) := ⟨hy0⟩
      have E1 : Aside0 (wr.drew.cell? ⟨(ad.add (j * 4)).block, (ad.add (j * 4)).off + 1, none⟩ = some (.int .i64 f1)) := ⟨hy1⟩
      have E2 : Aside0 (wr.drew.cell? ⟨(ad.add (j * 4)).block, (ad.add (j * 4)).off + 2, none⟩ = some (.int .u64 f2)) := ⟨hy2⟩
      have E3 : Aside0 (wr.drew.cell? ⟨(ad.add (j * 4)).block, (ad.add (j * 4)).off + 3, none⟩ = some (.string f3)) := ⟨hy3⟩
      have K1d := Aside0.mk (blk_drew K1.out)
      have K2d := Aside0.mk (blk_drew K2.out)
      have K3d := Aside0.mk (blk_drew K3.out)
      have HOd := Aside0.mk (Kd.R_drew HO.out)
      have HBd := Aside0.mk (below_drew1 HB.out)
      have HSd := Aside0.mk HBd.out.size
      have G1D := Aside0.mk (blk_lt K1d.out)
      have G2D := Aside0.mk (blk_lt K2d.out)
      have G3D := Aside0.mk (blk_lt K3d.out)
      have NLE : Aside0 ((((l13.take j).map to90).length + 1) * 40 ≤ 140737488355328) := ⟨by rw [List.length_map, List.length_take]; have := HL.out; omega⟩
      clear hy0 hy1 hy2 hy3
      go_upto_region 5 with (fail)
      refine start_ (n := 11) (S := fun w' => w'.cell? ⟨g3, 13, none⟩ = some v ∧ w'.cell? ⟨g1, 13, none⟩ = some (.slice (some ad) l13.length c13) ∧ w'.cell? (ad.add (j * 4)) = some (.int .u64 f0) ∧ w'.cell? ⟨(ad.add (j * 4)).block, (ad.add (j * 4)).off + 1, none⟩ = some (.int .i64 f1) ∧ w'.cell? ⟨(ad.add (j * 4)).block, (ad.add (j * 4)).off + 2, none⟩ = some (.int .u64 f2) ∧ w'.cell? ⟨(ad.add (j * 4)).block, (ad.add (j * 4)).off + 3, none⟩ = some (.string f3)) (ds := [8, 10]) #[false, false, false, false, false, false, false, false, false, false, false] (by kernel_rfl) rfl rfl ⟨(blk_cell K3d.out 13).trans rfl, (blk_cell K1d.out 13).trans rfl, E0.out, E1.out, E2.out, E3.out⟩ (fun hHeld => ?_)
      generalize wr.drew = wd at K1d K2d K3d HOd HBd HSd G1D G2D G3D E0 E1 E2 E3 hHeld ⊢
      have BA : ∀ o, Below wd.heap.size wd (wd.alloc o) := fun o => below_alloc (Below.refl _ _) o
      have EB : ∀ {w5 : World}, Below wd.heap.size wd w5 → (w5.cell? (ad.add (j * 4)) = some (.int .u64 f0) ∧ w5.cell? ⟨(ad.add (j * 4)).block, (ad.add (j * 4)).off + 1, none⟩ = some (.int .i64 f1) ∧ w5.cell? ⟨(ad.add (j * 4)).block, (ad.add (j * 4)).off + 2, none⟩ = some (.int .u64 f2) ∧ w5.cell? ⟨(ad.add (j * 4)).block, (ad.add (j * 4)).off + 3, none⟩ = some (.string f3)) := fun hb => ⟨(hb.cell (World.block_lt_of_cell? wd _ E0.out)).trans E0.out, (hb.cell (World.block_lt_of_cell? wd _ E1.out)).trans E1.out, (hb.cell (World.block_lt_of_cell? wd _ E2.out)).trans E2.out, (hb.cell (World.block_lt_of_cell? wd _ E3.out)).trans E3.out⟩
      have N1V := Aside0.mk (show some g1 ≠ v.ownBlock from fun e => absurd (own_typed' HOd.out g1 e.symm K1d.out) (by decide))
      have N2V := Aside0.mk (show some g2 ≠ v.ownBlock from fun e => absurd (own_typed' HOd.out g2 e.symm K2d.out) (by decide))
      refine pure_ (i := 0) (N := some 39) (v := ?_) (a' := ?_) #[true, false, false, false, false, false, false, false, false, false, false] rfl rfl (by kernel_rfl) (fun _ _ _ h => h) (Or.inl ⟨by rfl, ?_⟩) ?_ ?_
      rotate_left
      · intro w'
        go_simp
        first | done | with_reducible rfl | rfl | (simp [Instr.field, go_sem]; rfl)
      rotate_left
      · simp only [Act.put, List.setIfInBounds_toArray, List.set_cons_zero, List.set_cons_succ, i64_w, i32_w]
        rfl
      refine pure_ (i := 2) (N := some 41) (v := ?_) (a' := ?_) #[true, false, true, false, false, false, false, false, false, false, false] rfl rfl (by kernel_rfl) (fun _ _ _ h => h) (Or.inl ⟨by rfl, ?_⟩) ?_ ?_
      rotate_left
      · intro w'
        go_simp
        first | done | with_reducible rfl | rfl | (simp [Instr.field, go_sem]; rfl)
      rotate_left
      · simp only [Act.put, List.setIfInBounds_toArray, List.set_cons_zero, List.set_cons_succ, i64_w, i32_w]
        rfl
      refine pure_ (i := 4) (N := some 43) (v := ?_) (a' := ?_) #[true, false, true, false, true, false, false, false, false, false, false] rfl rfl (by kernel_rfl) (fun _ _ _ h => h) (Or.inl ⟨by rfl, ?_⟩) ?_ ?_
      rotate_left
      · intro w'
        go_simp
        first | done | with_reducible rfl | rfl | (simp [Instr.field, go_sem]; rfl)
      rotate_left
      · simp only [Act.put, List.setIfInBounds_toArray, List.set_cons_zero, List.set_cons_succ, i64_w, i32_w]
        rfl
      refine take_ (i := 1) (N := some 40) (v := ?_) (a' := ?_) #[true, true, true, false, true, false, false, false, false, false, false] rfl rfl (by kernel_rfl) (fun _ _ _ h => h) (Or.inl ⟨by rfl, ?_⟩) hHeld ?_ ?_
      rotate_left
      · rintro w' ⟨s0, s1, s2, s3, s4, s5⟩
        go_simp
        first | done | with_reducible rfl | rfl | (simp [Instr.field, go_sem]; rfl)
      rotate_left
      · simp only [Act.put, List.setIfInBounds_toArray, List.set_cons_zero, List.set_cons_succ, i64_w, i32_w]
        rfl
      refine take_ (i := 3) (N := some 42) (v := ?_) (a' := ?_) #[true, true, true, true, true, false, false, false, false, false, false] rfl rfl (by kernel_rfl) (fun _ _ _ h => h) (Or.inl ⟨by rfl, ?_⟩) hHeld ?_ ?_
      rotate_left
      · rintro w' ⟨s0, s1, s2, s3, s4, s5⟩
        go_simp
        first | done | with_reducible rfl | rfl | (simp [Instr.field, go_sem]; rfl)
      rotate_left
      · simp only [Act.put, List.setIfInBounds_toArray, List.set_cons_zero, List.set_cons_succ, i64_w, i32_w]
        rfl
      refine pure_ (i := 5) (N := some 44) (v := ?_) (a' := ?_) #[true, true, true, true, true, true, false, false, false, false, false] rfl rfl (by kernel_rfl) (fun _ _ _ h => h) (Or.inl ⟨by rfl, ?_⟩) ?_ ?_
      rotate_left
      · intro w'
        go_simp
        first | done | with_reducible rfl | rfl | (simp [Instr.field, go_sem]; rfl)
      rotate_left
      · simp only [Act.put, List.setIfInBounds_toArray, List.set_cons_zero, List.set_cons_succ, i64_w, i32_w]
        rfl
      refine take_ (i := 6) (N := some 45) (v := ?_) (a' := ?_) #[true, true, true, true, true, true, true, false, false, false, false] rfl rfl (by kernel_rfl) (fun _ _ _ h => h) (Or.inl ⟨by rfl, ?_⟩) hHeld ?_ ?_
      rotate_left
      · rintro w' ⟨s0, s1, s2, s3, s4, s5⟩
        go_simp
        first | done | with_reducible rfl | rfl | (simp [Instr.field, go_sem]; rfl)
      rotate_left
      · simp only [Act.put, List.setIfInBounds_toArray, List.set_cons_zero, List.set_cons_succ, i64_w, i32_w]
        rfl
      refine one_ (i := 7) (N := some 46) #[true, true, true, true, true, true, true, true, false, false, false] rfl rfl (by kernel_rfl) (by decide) (fun K hK => ?_)
      refine value_ (w1 := ?_) (v := ?_) (by rfl) rfl ?_ ?_
      rotate_left 2
      · go_simp
        constructor
        · rfl
        · rfl
      refine hK _ _ ⟨(blk_cell (blk_below K3d.out (BA _)) 13).trans rfl, (blk_cell (blk_below K1d.out (BA _)) 13).trans rfl, EB (BA _)⟩ (fun hHeld => ?_)
      clear hK K
      refine norm_ (a' := ?_) ?_ ?_
      rotate_left
      · show Act.put _ (some 46) _ = _
        simp only [Act.put, List.setIfInBounds_toArray, List.set_cons_zero, List.set_cons_succ, i64_w, i32_w]
        rfl
      refine last_ (i := 8) (N := some 47) #[true, true, true, true, true, true, true, true, true, false, false] rfl rfl (by kernel_rfl) (by decide) (fun K hK => ?_)
      refine Kd.R_append_step k90 (w0 := wd) w.heap.size (by rfl) (.tmp 40) (.tmp 46) 36 90 (.agg #[(.int .u64 0), (.int .i64 0), (.int .u64 0), (.string ⟨#[]⟩)]) 40 rfl Try.underlying36 info90 rfl (by decide) (by omega) v ((l13.take j).map to90) ⟨f0, ⟨f1, f2, f3⟩⟩ [.int .u64 f0, .int .i64 f1, .int .u64 f2, .string f3] (fun b => b ≠ g3) (fun _ => False) rfl rfl ?aP (fun _ hk => hk.elim) ?aF ?aO (Below.refl _ _) ?aS ?aL ?_
      case aP => exact k90_mkM _ _ _ ⟨f0, ⟨f1, f2, f3⟩⟩
      case aF => exact fun b hb => by have := G3D.out; omega
      case aO => exact HOd.out
      case aS => exact HSd.out
      case aL => exact NLE.out
      intro v1 w5 ho5 hb5 hg5 hat5
      rw [show (l13.take j).map to90 ++ [(⟨f0, ⟨f1, f2, f3⟩⟩ : S90)] = (l13.take (j + 1)).map to90 from HTK.out.symm] at ho5
      obtain ⟨r1, hr1⟩ : ∃ r1, r1 = (l13.take (j + 1)).map to90 := ⟨_, rfl⟩
      rw [← hr1] at ho5
      have HR1 := Aside0.mk hr1
      clear hr1
      obtain ⟨A1, c1, rfl⟩ := Kd.R_slice ho5
      have K3e := Aside0.mk ((hg5.block g3 G3D.out (by intro e; exact absurd rfl (HOd.out.1 g3 e.symm))).trans K3d.out)
      have K1e := Aside0.mk ((hg5.block g1 G1D.out (by intro e; exact N1V.out e)).trans K1d.out)
      have K2e := Aside0.mk ((hg5.block g2 G2D.out (by intro e; exact N2V.out e)).trans K2d.out)
      have HO5 := Aside0.mk ho5
      have HB5 := Aside0.mk hb5
      clear ho5 hb5 hg5 hat5
      refine hK _ _ ?_
      clear hK K
      refine norm_ (a' := ?_) ?_ ?_
      rotate_left
      · show Act.put _ (some 47) _ = _
        simp only [Act.put, List.setIfInBounds_toArray, List.set_cons_zero, List.set_cons_succ, i64_w, i32_w]
        rfl
      refine pure_ (i := 9) (N := some 48) (v := ?_) (a' := ?_) #[true, true, true, true, true, true, true, true, true, true, false] rfl rfl (by kernel_rfl) (fun _ _ _ h => h) (Or.inl ⟨by rfl, ?_⟩) ?_ ?_
      rotate_left
      · intro w'
        go_simp
        first | done | with_reducible rfl | rfl | (simp [Instr.field, go_sem]; rfl)
      rotate_left
      · simp only [Act.put, List.setIfInBounds_toArray, List.set_cons_zero, List.set_cons_succ, i64_w, i32_w]
        rfl
      refine last_ (i := 10) (N := none) #[true, true, true, true, true, true, true, true, true, true, true] rfl rfl (by kernel_rfl) (by decide) (fun K hK => ?_)
      have z3 := (blk_cell K3e.out 13).trans rfl
      have zf3 := blk_frozen K3e.out 13
      refine skip_ (w1 := ?_) (by rfl) rfl ?_ ?_
      rotate_left
      · go_simp
        rfl
      refine hK _ _ ?_
      clear hK K
      refine done_ (by kernel_rfl) ?_
      have Q3 : Aside0 ((w5.setCell ⟨g3, 13, none⟩ (.slice A1 r1.length c1)).heap[g3]? = some (.cells #[.int .i64 a0, .int .i64 a1, .int .i64 a2, .int .u64 a3, .int .i64 a4, .slice A5 l5.length c5, .int .u64 a6, .int .u64 a7, .int .u64 a8, .int .u64 a9, .int .u64 a10, .int .u64 a11, .int .u64 a12, .slice A1 r1.length c1, .slice A14 l14.length c14, .float .f64 a15] 38 (0, 0))) := ⟨blk_put K3e.out 13 (.slice A1 r1.length c1) rfl⟩
      go_wp2
      go_roundw
      case rel => exact ⟨j + 1, .slice A1 r1.length c1, by go_num, ⟨hlt⟩, ⟨blk_far (p := ⟨g3, 13, none⟩) K1e.out N13.out _⟩, ⟨blk_far (p := ⟨g3, 13, none⟩) K2e.out N23.out _⟩, Q3, ⟨by rw [← HR1.out]; exact Kd.R_far (p := ⟨g3, 13, none⟩) HO5.out (fun _ h => h) _⟩, ⟨below_set (HBd.out.trans HB5.out) L3.out⟩⟩
      case measure => have := HL.out; simp [intOf]; omega
    · obtain rfl : j = l13.length := by have := hj.out; omega
      have HO1 : Aside0 (Kd.R k90 90 wr w.heap.size (fun b => b ≠ g3) v (l13.map to90)) := ⟨by have h := HO.out; rwa [List.take_length] at h⟩
      clear HO
      obtain ⟨r1, hr1⟩ : ∃ r1, r1 = l13.map to90 := ⟨_, rfl⟩
      rw [← hr1] at HO1
      obtain ⟨A9, c9, rfl⟩ := Kd.R_slice HO1.out
      have HR1 := Aside0.mk hr1
      clear hr1
      have y := fun i => blk_cell K3.out i
      go_wp2_with ((with_reducible refine gate_store (t := 38) (p := 2) rfl ?_); go_loud (refine wpList_store_row rfl 38 (.tmp 2) (.tmp 49) rfl g2 #[.int .i64 a0, .int .i64 a1, .int .i64 a2, .int .u64 a3, .int .i64 a4, .slice A5 l5.length c5, .int .u64 a6, .int .u64 a7, .int .u64 a8, .int .u64 a9, .int .u64 a10, .int .u64 a11, .int .u64 a12, .slice A9 r1.length c9, .slice A14 l14.length c14, .float .f64 a15] rfl rfl 38 #[.int .i64 0, .int .i64 0, .int .i64 0, .int .u64 0, .int .i64 0, .slice none 0 0, .int .u64 0, .int .u64 0, .int .u64 0, .int .u64 0, .int .u64 0, .int .u64 0, .int .u64 0, .slice none 0 0, .slice none 0 0, .float .f64 0] K2.out si38 rfl (one_L _ _ _ _ _ _ _ _ _ _ _ _ _ _ _ _ _ _ _ _ _ _) ?_); have K2e := Aside0.mk (setRow_heap wr g2 #[.int .i64 0, .int .i64 0, .int .i64 0, .int .u64 0, .int .i64 0, .slice none 0 0, .int .u64 0, .int .u64 0, .int .u64 0, .int .u64 0, .int .u64 0, .int .u64 0, .int .u64 0, .slice none 0 0, .slice none 0 0, .float .f64 0] #[.int .i64 a0, .int .i64 a1, .int .i64 a2, .int .u64 a3, .int .i64 a4, .slice A5 l5.length c5, .int .u64 a6, .int .u64 a7, .int .u64 a8, .int .u64 a9, .int .u64 a10, .int .u64 a11, .int .u64 a12, .slice A9 r1.length c9, .slice A14 l14.length c14, .float .f64 a15] 38 (0, 0) K2.out); have HB2 := Aside0.mk (below_setRow HB.out L2.out #[.int .i64 a0, .int .i64 a1, .int .i64 a2, .int .u64 a3, .int .i64 a4, .slice A5 l5.length c5, .int .u64 a6, .int .u64 a7, .int .u64 a8, .int .u64 a9, .int .u64 a10, .int .u64 a11, .int .u64 a12, .slice A9 r1.length c9, .slice A14 l14.length c14, .float .f64 a15]); have HO2 := Aside0.mk (row_step38 (Kd.R_mono HO1.out (fun _ _ => trivial)) K2.out (by decide) #[.int .i64 a0, .int .i64 a1, .int .i64 a2, .int .u64 a3, .int .i64 a4, .slice A5 l5.length c5, .int .u64 a6, .int .u64 a7, .int .u64 a8, .int .u64 a9, .int .u64 a10, .int .u64 a11, .int .u64 a12, .slice A9 r1.length c9, .slice A14 l14.length c14, .float .f64 a15]); generalize World.setRow wr g2 _ = w9 at K2e HB2 HO2 ⊢; clear x y K1 K2 K3 HO1 HB)
      refine bodyPost_ret (v := .agg #[.int .i64 a0, .int .i64 a1, .int .i64 a2, .int .u64 a3, .int .i64 a4, .slice A5 l5.length c5, .int .u64 a6, .int .u64 a7, .int .u64 a8, .int .u64 a9, .int .u64 a10, .int .u64 a11, .int .u64 a12, .slice A9 r1.length c9, .slice A14 l14.length c14, .float .f64 a15]) (results_cell_row (fn := Try.f13) (p := 2) (ty := 38) (by kernel_rfl) _ _ g2 38 #[.int .i64 a0, .int .i64 a1, .int .i64 a2, .int .u64 a3, .int .i64 a4, .slice A5 l5.length c5, .int .u64 a6, .int .u64 a7, .int .u64 a8, .int .u64 a9, .int .u64 a10, .int .u64 a11, .int .u64 a12, .slice A9 r1.length c9, .slice A14 l14.length c14, .float .f64 a15] (0, 0) _ rfl K2e.out Try.underlying38 rfl si38) rfl ?_
      exact ⟨_, rfl, by rw [← HR1.out]; exact HO2.out, HB2.out⟩
end Go.Proofs.Ytondgoabnmgcaaa.B
end
section
/- By hand: Decode's answer in the print's form, and 'shown': a letter is bytes, and back. -/
namespace Go.Proofs.Ytondgoabnmgcaaa.B
open Go.RowKit Go.Proofs.YtondgoabnmgcaaaW.PrintWords Go.Proofs.YtondgoabnmgcaaaW.PrintLast Go.Proofs.YtondgoabnmgcaaaW.PrintMore
open Go.Proofs.YtondgoabnmgcaaaO.R (rdv rbits le)
set_option linter.unusedSimpArgs false
set_option linter.unusedVariables false
theorem C_nil {α : Type} (d : Kd α) (w : World) : Kd.C d w none ([] : List α).length [] := ⟨rfl, by simp, fun h0 => absurd h0 (by simp)⟩
def shownX : S32 := ⟨3, 1, 2, 9, 0, [], ⟨0, 0⟩, 0, 0, ⟨0, 0⟩, 0, [], [], 0⟩
theorem shown_may : mayL 3 1 2 0 [] [] [] 0 = true := by kernel_rfl
theorem shown_okL : okL 3 1 2 9 0 [] 0 0 0 0 0 0 0 [] [] 0 = true := by kernel_rfl
theorem shown_dec : decP (strOfNums (encL 3 1 2 9 0 [] 0 0 0 0 0 0 0 [] [] 0)) = .ok shownX := by kernel_rfl
theorem shown_size : (strOfNums (encL 3 1 2 9 0 [] 0 0 0 0 0 0 0 [] [] 0)).size = 79 := by kernel_rfl
theorem shown_open : Go.Proofs.YtondgoabnmgcaaaG.B.guard_Open.f (sealS (strOfNums (encL 3 1 2 9 0 [] 0 0 0 0 0 0 0 [] [] 0))) = some (strOfNums (encL 3 1 2 9 0 [] 0 0 0 0 0 0 0 [] [] 0), 0) :=
  Go.Proofs.YtondgoabnmgcaaaG.Pure.open_seal _ (by rw [shown_size]; decide)
def flatL (x : S32) (er : Int) : Int × Int × Int × Int × Int × List S70 × Int × Int × Int × Int × Int × Int × Int × List S53 × List S77 × Nat × Int :=
  (x.f0, x.f1, x.f2, x.f3, x.f4, x.f5, x.f6.f0, x.f6.f1, x.f7, x.f8, x.f9.f0, x.f9.f1, x.f10, x.f11, x.f12, x.f13, er)
def flatD : Except Int S32 → Int × Int × Int × Int × Int × List S70 × Int × Int × Int × Int × Int × Int × Int × List S53 × List S77 × Nat × Int
  | .error er => flatL z32 er
  | .ok x => flatL x 0
/-- what a text is decoded to -/
def decT (t : ByteArray) : Option (Except Int S32) := (Go.Proofs.YtondgoabnmgcaaaG.B.guard_Open.f t).bind fun r => if r.2 = 0 then (if r.1.size < 4611686018427387904 then some (decP r.1) else none) else some (.error r.2)
def letter_Decode.f (a0 : ByteArray) : Option (Int × Int × Int × Int × Int × List S70 × Int × Int × Int × Int × Int × Int × Int × List S53 × List S77 × Nat × Int) := (decT a0).map flatD
theorem decT_at (t : ByteArray) (D : Except Int S32) (w : World) (h : decT t = some D) : Calls Try.prog 10 #[.string t] w (DPost D w) := by
  unfold decT at h
  obtain ⟨⟨s, er⟩, h1, h2⟩ := Option.bind_eq_some_iff.1 h
  dsimp only at h2
  by_cases he : er = 0
  · subst he
    rw [if_pos rfl] at h2
    by_cases hs : s.size < 4611686018427387904
    · rw [if_pos hs] at h2
      obtain rfl := Option.some.inj h2
      exact decode_walk w t s h1 hs
    · rw [if_neg hs] at h2; cases h2
  · rw [if_neg he] at h2
    obtain rfl := Option.some.inj h2
    exact decode_shut w t s er h1 he
theorem letter_Decode.calls (a0 : ByteArray) (r0 r1 r2 r3 r4 : Int) (r5 : List S70) (r6 r7 r8 r9 r10 r11 r12 : Int) (r13 : List S53) (r14 : List S77) (r15 : Nat) (r16 : Int) (w : World)
    (h : letter_Decode.f a0 = some (r0, r1, r2, r3, r4, r5, r6, r7, r8, r9, r10, r11, r12, r13, r14, r15, r16)) :
    Calls Try.prog 10 #[.string a0] w fun e w' => ∃ v5 v13 v14, e = .returned (.tuple #[.agg #[.int .i64 r0, .int .i64 r1, .int .i64 r2, .int .u64 r3, .int .i64 r4, v5, .int .u64 r6, .int .u64 r7, .int .u64 r8, .int .u64 r9, .int .u64 r10, .int .u64 r11, .int .u64 r12, v13, v14, .float .f64 r15], .int .i64 r16]) ∧
      Kd.R k70 70 w' w.heap.size (fun _ => True) v5 r5 ∧ Kd.R k53 53 w' w.heap.size (fun _ => True) v13 r13 ∧ Kd.R k77 77 w' w.heap.size (fun _ => True) v14 r14 ∧ Below w.heap.size w w' := by
  obtain ⟨D, hD, hf⟩ := Option.map_eq_some_iff.1 h
  refine (decT_at a0 D w hD).mono ?_
  rintro e w' ⟨hb, hh⟩
  cases D with
  | error er =>
    simp only [flatD, flatL, Prod.mk.injEq] at hf
    obtain ⟨rfl, rfl, rfl, rfl, rfl, rfl, rfl, rfl, rfl, rfl, rfl, rfl, rfl, rfl, rfl, rfl, rfl⟩ := hf
    exact ⟨_, _, _, hh, Kd.R_nil _ _ _ _ _, Kd.R_nil _ _ _ _ _, Kd.R_nil _ _ _ _ _, hb⟩
  | ok x =>
    simp only [flatD, flatL, Prod.mk.injEq] at hf
    obtain ⟨rfl, rfl, rfl, rfl, rfl, rfl, rfl, rfl, rfl, rfl, rfl, rfl, rfl, rfl, rfl, rfl, rfl⟩ := hf
    obtain ⟨v5, v13, v14, rfl, r5, r13, r14⟩ := hh
    exact ⟨v5, v13, v14, rfl, r5, r13, r14, hb⟩
def conventiclelaw15_shown.f : Option Bool := some true
set_option maxRecDepth 100000 in
set_option maxHeartbeats 2000000 in
theorem conventiclelaw15_shown.calls (r : Bool) (w : World) (h : conventiclelaw15_shown.f = some r) :
    Calls Try.prog 8 #[] w fun e w' => e = .returned (.bool r) ∧ Below w.heap.size w w' := by
  obtain rfl := Option.some.inj h
  clear h
  have HE := fun w : World => Aside0.mk (encode_ok 3 1 2 9 0 none 0 [] 0 0 0 0 0 0 0 none 0 [] none 0 [] 0 w (C_nil _ _) (Nat.le_refl _) (C_nil _ _) (Nat.le_refl _) (C_nil _ _) (Nat.le_refl _) shown_may shown_okL)
  have HD := Aside0.mk shown_dec
  have HO := Aside0.mk shown_open
  have HSZ := Aside0.mk shown_size
  generalize strOfNums (encL 3 1 2 9 0 [] 0 0 0 0 0 0 0 [] [] 0) = s at HE HD HO HSZ
  obtain ⟨t, ht⟩ : ∃ t, sealS s = t := ⟨_, rfl⟩
  rw [ht] at HE HO
  clear ht
  go_enter Try.func8, Try.ntmps8
  go_wp2_with (first
    | (go_at_call 14; refine ((HE _).out).mono ?_; rintro e w1 ⟨rfl, hb⟩; have B1 := Aside0.mk hb; clear hb)
    | (go_at_call 10; refine (decode_walk _ t s HO.out (by rw [HSZ.out]; decide)).mono ?_; rintro e w2 hh; rw [HD.out] at hh; obtain ⟨hb, v5, v13, v14, rfl, r5, r13, r14⟩ := hh; obtain ⟨A5, c5, rfl⟩ := Kd.R_slice r5; obtain ⟨A13, c13, rfl⟩ := Kd.R_slice r13; obtain ⟨A14, c14, rfl⟩ := Kd.R_slice r14; have hc : cellsL shownX (.slice A5 shownX.f5.length c5) (.slice A13 shownX.f11.length c13) (.slice A14 shownX.f12.length c14) = #[.int .i64 3, .int .i64 1, .int .i64 2, .int .u64 9, .int .i64 0, .slice A5 0 c5, .int .u64 0, .int .u64 0, .int .u64 0, .int .u64 0, .int .u64 0, .int .u64 0, .int .u64 0, .slice A13 0 c13, .slice A14 0 c14, .float .f64 0] := rfl; rw [hc]; clear hc; have B2 := Aside0.mk (below_step B1.out hb); clear hb r5 r13 r14)
    | ((with_reducible refine gate_dst (N := 3) rfl ?_); refine box_event ?hg (N := 3) ?hd (cs := #[.int .i64 0, .int .i64 0, .int .i64 0, .int .u64 0, .int .i64 0, .slice none 0 0, .int .u64 0, .int .u64 0, .int .u64 0, .int .u64 0, .int .u64 0, .int .u64 0, .int .u64 0, .slice none 0 0, .slice none 0 0, .float .f64 0]) (t := 32) ?hr ?_; (case hd => rfl); (case hg => rfl); (case hr => first | (go_simp; done) | (go_simp; rfl)); intro g3 hg_ w3 hb_ hB_; have K3 := Aside0.mk hb_; have G3 := Aside0.mk (show w.heap.size ≤ g3 by rw [hg_]; exact B2.out.size); have B3 := Aside0.mk (below_step B2.out hB_); clear hg_ hb_ hB_)
    | ((with_reducible refine gate_store (t := 32) (p := 3) rfl ?_); go_loud (refine wpList_store_row rfl 32 (.tmp 3) (.tmp 13) rfl g3 #[.int .i64 3, .int .i64 1, .int .i64 2, .int .u64 9, .int .i64 0, .slice A5 0 c5, .int .u64 0, .int .u64 0, .int .u64 0, .int .u64 0, .int .u64 0, .int .u64 0, .int .u64 0, .slice A13 0 c13, .slice A14 0 c14, .float .f64 0] rfl rfl 32 #[.int .i64 0, .int .i64 0, .int .i64 0, .int .u64 0, .int .i64 0, .slice none 0 0, .int .u64 0, .int .u64 0, .int .u64 0, .int .u64 0, .int .u64 0, .int .u64 0, .int .u64 0, .slice none 0 0, .slice none 0 0, .float .f64 0] K3.out si32 rfl (one_L _ _ _ _ _ _ _ _ _ _ _ _ _ _ _ _ _ _ _ _ _ _) ?_); have RK := Aside0.mk (setRow_heap w3 g3 #[.int .i64 0, .int .i64 0, .int .i64 0, .int .u64 0, .int .i64 0, .slice none 0 0, .int .u64 0, .int .u64 0, .int .u64 0, .int .u64 0, .int .u64 0, .int .u64 0, .int .u64 0, .slice none 0 0, .slice none 0 0, .float .f64 0] #[.int .i64 3, .int .i64 1, .int .i64 2, .int .u64 9, .int .i64 0, .slice A5 0 c5, .int .u64 0, .int .u64 0, .int .u64 0, .int .u64 0, .int .u64 0, .int .u64 0, .int .u64 0, .slice A13 0 c13, .slice A14 0 c14, .float .f64 0] 32 (0, 0) K3.out); have RB := Aside0.mk (below_setRow B3.out G3.out #[.int .i64 3, .int .i64 1, .int .i64 2, .int .u64 9, .int .i64 0, .slice A5 0 c5, .int .u64 0, .int .u64 0, .int .u64 0, .int .u64 0, .int .u64 0, .int .u64 0, .int .u64 0, .slice A13 0 c13, .slice A14 0 c14, .float .f64 0]); generalize World.setRow w3 g3 _ = w4 at RK RB ⊢; have z := fun j => blk_cell RK.out j))
  go_ret
  exact ⟨rfl, RB.out⟩
end Go.Proofs.Ytondgoabnmgcaaa.B
end
section
/- A heavy letter, in plain words; how long a letter's bytes are. -/
namespace Go.Proofs.Ytondgoabnmgcaaa.Pure
open Go.RowKit Go.Proofs.Ytondgoabnmgcaaa.B Go.Proofs.YtondgoabnmgcaaaW.PrintWords Go.Proofs.YtondgoabnmgcaaaW.PrintLast
open Go.Proofs.YtondgoabnmgcaaaO.R (le le_length rbits)
set_option linter.unusedVariables false
theorem rd53 (l : List S53) (j : Nat) (h : j < l.length) : rd_T53 l (j : Int) = l[j] := by
  unfold rd_T53
  rw [Int.toNat_natCast, List.getD_eq_getElem?_getD, List.getElem?_eq_getElem h]; rfl
def longP (p : S53) : Bool := decide ((p.f1.f2.size : Int) > 100)
section
variable (a0 a1 a2 a3 a4 : Int) (l5 : List S70) (a6 a7 a8 a9 a10 a11 a12 : Int) (l13 : List S53) (l14 : List S77) (a15 : Nat)
theorem heavy_l0 (hl : l13.length ≤ maxLen) : ∀ (n j k : Nat), j + n = l13.length → n < k →
    conventiclelaw15_heavy.l0 k (j : Int) a0 a1 a2 a3 a4 l5 a6 a7 a8 a9 a10 a11 a12 l13 l14 a15 = some ((l13.drop j).any longP) := by
  intro n
  induction n with
  | zero =>
    intro j k hj hk
    obtain ⟨k, rfl⟩ : ∃ m, k = m + 1 := ⟨k - 1, by omega⟩
    rw [conventiclelaw15_heavy.l0, if_neg (by omega), List.drop_eq_nil_of_le (by omega)]
    rfl
  | succ n ih =>
    intro j k hj hk
    obtain ⟨k, rfl⟩ : ∃ m, k = m + 1 := ⟨k - 1, by omega⟩
    have hlt : j < l13.length := by omega
    rw [conventiclelaw15_heavy.l0, if_pos (by omega), if_pos (by omega), rd53 l13 j hlt, List.drop_eq_getElem_cons hlt, List.any_cons]
    have hw : wrap64 ((j : Int) + 1) = ((j + 1 : Nat) : Int) := by unfold wrap64; unfold maxLen at hl; omega
    by_cases h1 : (l13[j].f1.f2.size : Int) > 100
    · rw [if_pos h1]
      have : longP l13[j] = true := by unfold longP; exact decide_eq_true h1
      rw [this, Bool.true_or]
    · rw [if_neg h1, hw, ih (j + 1) k (by omega) (by omega)]
      have : longP l13[j] = false := by unfold longP; exact decide_eq_false h1
      rw [this, Bool.false_or]
def heavyB : Bool := decide ((l5.length : Int) > 30) || (decide ((l13.length : Int) > 30) || (decide ((l14.length : Int) > 40) || l13.any longP))
theorem heavy_is (hl : l13.length ≤ maxLen) (k : Nat) (hk : l13.length + 1 < k) : conventiclelaw15_heavy.f k a0 a1 a2 a3 a4 l5 a6 a7 a8 a9 a10 a11 a12 l13 l14 a15 = some (heavyB l5 l13 l14) := by
  obtain ⟨k, rfl⟩ : ∃ m, k = m + 1 := ⟨k - 1, by omega⟩
  have h0 := heavy_l0 a0 a1 a2 a3 a4 l5 a6 a7 a8 a9 a10 a11 a12 l13 l14 a15 hl l13.length 0 k (by omega) (by omega)
  rw [List.drop_zero] at h0
  unfold conventiclelaw15_heavy.f heavyB
  by_cases h1 : (l5.length : Int) > 30
  · rw [if_pos h1, conventiclelaw15_heavy.j0, if_pos rfl, decide_eq_true h1, Bool.true_or]
  rw [if_neg h1, decide_eq_false h1, Bool.false_or]
  by_cases h2 : (l13.length : Int) > 30
  · rw [if_pos h2, conventiclelaw15_heavy.j0, if_pos rfl, decide_eq_true h2, Bool.true_or]
  rw [if_neg h2, decide_eq_false h2, Bool.false_or]
  by_cases h3 : (l14.length : Int) > 40
  · rw [decide_eq_true h3, conventiclelaw15_heavy.j0, if_pos rfl, Bool.true_or]
  rw [decide_eq_false h3, conventiclelaw15_heavy.j0, if_neg (by decide), Bool.false_or]
  exact h0
def sumP : List S53 → Nat
  | [] => 0
  | p :: l => 19 + p.f1.f2.size + sumP l
theorem len_encU (l : List S70) : (l.flatMap encU).length = 10 * l.length := by
  induction l with
  | nil => rfl
  | cons u l ih => rw [List.flatMap_cons, List.length_append, ih, encU, List.length_append, List.length_append, le_length, le_length, le_length, List.length_cons]; omega
theorem len_encX (l : List S77) : (l.flatMap encX).length = 16 * l.length := by
  induction l with
  | nil => rfl
  | cons u l ih => rw [List.flatMap_cons, List.length_append, ih, encX, List.length_append, le_length, le_length, List.length_cons]; omega
theorem len_encP (l : List S53) : (l.flatMap encP).length = sumP l := by
  induction l with
  | nil => rfl
  | cons p l ih =>
    rw [List.flatMap_cons, List.length_append, ih, encP, List.length_append, List.length_append, List.length_append, List.length_append, le_length, le_length, le_length, le_length, bytesOf_length, sumP]
    omega
theorem len_encL : (encL a0 a1 a2 a3 a4 l5 a6 a7 a8 a9 a10 a11 a12 l13 l14 a15).length = 79 + 10 * l5.length + sumP l13 + 16 * l14.length := by
  unfold encL
  simp only [List.length_append, le_length, len_encU, len_encP, len_encX, List.length_nil]
  omega
theorem sumP_le : ∀ (l : List S53), (∀ p ∈ l, p.f1.f2.size ≤ 64) → sumP l ≤ 83 * l.length
  | [], _ => by simp [sumP]
  | p :: l, h => by
    have := sumP_le l (fun q hq => h q (List.mem_cons_of_mem _ hq))
    have h1 := h p List.mem_cons_self
    rw [sumP, List.length_cons]
    omega
end
theorem u64_wf {n : Int} (h : (Lit.int .u64 n).wf = true) : u64B n = true := by
  have : 0 ≤ n ∧ n < 18446744073709551616 := by
    simp [Lit.wf, IntKind.min, IntKind.max, IntKind.signed, IntKind.bits] at h; omega
  simpa [u64B] using this
theorem sealS_size (s : ByteArray) : (sealS s).size = s.size + 4 := by
  unfold sealS
  rw [ByteArray.size_append, Go.Proofs.YtondgoabnmgcaaaG.Pure.four_size]
end Go.Proofs.Ytondgoabnmgcaaa.Pure
end
section
/- By hand: the walk of LetterMay. -/
namespace Go.Proofs.Ytondgoabnmgcaaa.B
open Go.RowKit Go.Proofs.YtondgoabnmgcaaaW.PrintWords Go.Proofs.YtondgoabnmgcaaaW.PrintLast Go.Proofs.YtondgoabnmgcaaaW.PrintMore
open Go.Proofs.YtondgoabnmgcaaaO.R (le le_length rbits ord)
set_option linter.unusedSimpArgs false
set_option linter.unusedVariables false
theorem ge_self (x : Nat) (h : geF x = true) : (FloatKind.f64.format.order x x == some Ordering.eq) = true := by
  unfold geF at h
  rw [ord] at h
  by_cases hn : Go.Proofs.YtondgoabnmgcaaaO.Flt.nan x = true ∨ Go.Proofs.YtondgoabnmgcaaaO.Flt.nan 0 = true
  · rw [if_pos hn] at h; cases h
  · rw [ord, if_neg (by rintro (h | h) <;> exact hn (.inl h))]
    simp
end Go.Proofs.Ytondgoabnmgcaaa.B
end
section
/- By hand: what was encoded is decoded: the plain law. -/
namespace Go.Proofs.Ytondgoabnmgcaaa.B
open Go.RowKit Go.Proofs.YtondgoabnmgcaaaW.PrintWords Go.Proofs.YtondgoabnmgcaaaW.PrintLast Go.Proofs.YtondgoabnmgcaaaW.PrintMore
open Go.Proofs.YtondgoabnmgcaaaO.R (rdv rdv_range rbits rdv_front cut_back bytesOf_byte le le_length le_byte)
open Go.Proofs.Ytondgoabnmgcaaa.Pure (len_encU len_encX len_encP len_encL sumP)
/-- the bytes L stand at p -/
def At (S : ByteArray) (p : Nat) (L : List Int) : Prop := ∃ A C, S = strOfNums (A ++ L ++ C) ∧ A.length = p ∧ ∀ x ∈ A ++ L ++ C, 0 ≤ x ∧ x < 256
theorem At.left {S : ByteArray} {p : Nat} {L M : List Int} (h : At S p (L ++ M)) : At S p L := by
  obtain ⟨A, C, e, ha, hb⟩ := h
  exact ⟨A, M ++ C, by rw [e]; simp, ha, fun x hx => hb x (by simpa using hx)⟩
theorem At.right {S : ByteArray} {p : Nat} {L M : List Int} (h : At S p (L ++ M)) : At S (p + L.length) M := by
  obtain ⟨A, C, e, ha, hb⟩ := h
  exact ⟨A ++ L, C, by rw [e]; simp, by simp [ha], fun x hx => hb x (by simpa using hx)⟩
theorem At.size {S : ByteArray} {p : Nat} {L : List Int} (h : At S p L) : p + L.length ≤ S.size := by
  obtain ⟨A, C, e, ha, hb⟩ := h
  rw [e, strOfNums_size, List.length_append, List.length_append]
  omega
theorem app_empty (s : ByteArray) : s ++ ByteArray.empty = s := by
  apply ByteArray.ext; rw [ByteArray.data_append]; exact Array.append_empty
theorem At.num {S : ByteArray} {p i : Nat} {v : Int} (h : At S p (le i v)) (h0 : 0 ≤ v) (h1 : v < 256 ^ i) : rdv S p i = v := by
  obtain ⟨A, C, e, ha, hb⟩ := h
  rw [e, ← ha]
  have := rdv_front ByteArray.empty i A C v hb h0 h1
  rwa [app_empty] at this
theorem At.one {S : ByteArray} {p : Nat} {v : Int} (h : At S p (le 1 v)) (h0 : 0 ≤ v ∧ v < 256) : rdv S p 1 = v := h.num h0.1 (by have := h0.2; omega)
theorem At.two {S : ByteArray} {p : Nat} {v : Int} (h : At S p (le 2 v)) (h0 : 0 ≤ v) (h1 : v < 65536) : rdv S p 2 = v := h.num h0 (by omega)
theorem At.u64 {S : ByteArray} {p : Nat} {v : Int} (h : At S p (le 8 v)) (h0 : 0 ≤ v ∧ v < 18446744073709551616) : rdv S p 8 = v := h.num h0.1 (by have := h0.2; omega)
theorem At.text {S : ByteArray} {p : Nat} {s : ByteArray} (h : At S p (bytesOf s)) : S.extract p (p + s.size) = s := by
  obtain ⟨A, C, e, ha, hb⟩ := h
  have h1 : S = strOfNums (A ++ bytesOf s) ++ strOfNums C := by
    rw [e]
    apply ByteArray.ext
    apply Array.toList_inj.1
    rw [ByteArray.data_append, Array.toList_append, strOfNums_data, strOfNums_data, strOfNums_data, List.map_append]
  rw [h1, ← ha]
  exact cut_back A s _
theorem run_it {α : Type} (S : ByteArray) (it : Nat → Except Int (α × Nat)) (enc : α → List Int) (ok : α → Prop) (hit : ∀ x p, ok x → At S p (enc x) → it p = .ok (x, p + (enc x).length)) :
    ∀ (l : List α) (p : Nat) (acc : List α), (∀ x ∈ l, ok x) → At S p (l.flatMap enc) → runI it l.length p acc = .ok (acc ++ l, p + (l.flatMap enc).length)
  | [], p, acc, _, _ => by simp [runI]
  | x :: l, p, acc, hl, h => by
    rw [List.flatMap_cons] at h
    rw [List.length_cons, runI, hit x p (hl x (List.mem_cons_self)) h.left]
    show runI it l.length (p + (enc x).length) (acc ++ [x]) = _
    rw [run_it S it enc ok hit l _ _ (fun y hy => hl y (List.mem_cons_of_mem _ hy)) h.right, List.flatMap_cons, List.length_append, Nat.add_assoc, List.append_assoc]
    rfl
theorem it_U (S : ByteArray) (u : S70) (p : Nat) (hu : (0 ≤ u.f0 ∧ u.f0 < 256) ∧ (0 ≤ u.f1 ∧ u.f1 < 18446744073709551616) ∧ (0 ≤ u.f2 ∧ u.f2 < 256)) (h : At S p (encU u)) : itU S p = .ok (u, p + (encU u).length) := by
  have hz := h.size
  have hl : (encU u).length = 10 := by simp [encU, le_length]
  rw [hl] at hz ⊢
  unfold encU at h
  have e0 := h.left.left.one hu.1
  have e1 := h.left.right.u64 hu.2.1
  have e2 := h.right.one hu.2.2
  simp only [List.length_append, le_length] at e1 e2
  unfold itU
  rw [if_neg (by omega), e0, e1, show p + 9 = p + (1 + 8) from rfl, e2]
theorem it_X (S : ByteArray) (u : S77) (p : Nat) (hu : (0 ≤ u.f0 ∧ u.f0 < 18446744073709551616) ∧ (0 ≤ u.f1 ∧ u.f1 < 18446744073709551616)) (h : At S p (encX u)) : itX S p = .ok (u, p + (encX u).length) := by
  have hz := h.size
  have hl : (encX u).length = 16 := by simp [encX, le_length]
  rw [hl] at hz ⊢
  unfold encX at h
  have e0 := h.left.u64 hu.1
  have e1 := h.right.u64 hu.2
  simp only [le_length] at e1
  unfold itX
  rw [if_neg (by omega), e0, e1]
theorem bytesOf_len (s : ByteArray) : (bytesOf s).length = s.size := by
  unfold bytesOf
  rw [List.length_map]
  exact data_length s
theorem it_P (S : ByteArray) (u : S53) (p : Nat) (hu : (0 ≤ u.f0 ∧ u.f0 < 18446744073709551616) ∧ (0 ≤ u.f1.f0 ∧ u.f1.f0 < 256) ∧ (0 ≤ u.f1.f1 ∧ u.f1.f1 < 18446744073709551616) ∧ (u.f1.f2.size : Int) ≤ 64) (h : At S p (encP u)) : itP S p = .ok (u, p + (encP u).length) := by
  have hz := h.size
  have hl : (encP u).length = 19 + u.f1.f2.size := by simp [encP, le_length, bytesOf_len]; omega
  rw [hl] at hz ⊢
  unfold encP at h
  have e0 := h.left.left.left.u64 hu.1
  have e1 := h.left.left.right.one hu.2.1
  have e2 := h.left.right.u64 hu.2.2.1
  have e3 := h.right.left.two (by omega) (by omega)
  have e4 := h.right.right.text
  simp only [List.length_append, le_length] at e1 e2 e3 e4
  have e3' : rdv S (p + 17) 2 = (u.f1.f2.size : Int) := e3
  have e4' : S.extract (p + 17 + 2) (p + 17 + 2 + u.f1.f2.size) = u.f1.f2 := e4
  have hN : textN S (p + 17) = u.f1.f2.size := by unfold textN; rw [e3']; rfl
  have hE : textE S (p + 17) = 0 := by
    unfold textE
    rw [e3', if_neg (by omega), if_neg (by omega), if_neg (by rw [Int.toNat_natCast]; omega)]
  unfold itP
  rw [if_neg (by omega), if_pos hE, e0, e1, show p + 9 = p + (8 + 1) from rfl, e2, hN, show textS S (p + 17) = u.f1.f2 by unfold textS; rw [hN]; exact e4', show p + 19 + u.f1.f2.size = p + (19 + u.f1.f2.size) by omega]
theorem list_it {α : Type} (S : ByteArray) (it : Nat → Except Int (α × Nat)) (enc : α → List Int) (ok : α → Prop) (hit : ∀ x p, ok x → At S p (enc x) → it p = .ok (x, p + (enc x).length)) (most : Nat) (hm : most < 256)
    (l : List α) (p : Nat) (hl : ∀ x ∈ l, ok x) (hn : l.length ≤ most) (h : At S p (le 1 (l.length : Int))) (hr : At S (p + 1) (l.flatMap enc)) : listI S it most p = .ok (l, p + 1 + (l.flatMap enc).length) := by
  have hz := h.size
  have e := h.one (by omega)
  rw [le_length] at hz
  unfold listI
  rw [if_neg (by omega), e, if_neg (by omega), Int.toNat_natCast, run_it S it enc ok hit l (p + 1) [] hl hr]
  rfl
theorem rbits_self (x : Nat) (h : geF x = true) : rbits x = (x : Int) := by
  have h1 := ge_self x h
  have hn : Go.Proofs.YtondgoabnmgcaaaO.Flt.nan x = false := by
    cases hx : Go.Proofs.YtondgoabnmgcaaaO.Flt.nan x
    · rfl
    · rw [Go.Proofs.YtondgoabnmgcaaaO.R.ord, if_pos (Or.inl hx)] at h1
      exact absurd h1 (by decide)
  unfold rbits
  rw [hn]
  rfl
theorem bytes_flat {α : Type} (f : α → List Int) (h : ∀ a, ∀ x ∈ f a, 0 ≤ x ∧ x < 256) (l : List α) : ∀ x ∈ l.flatMap f, 0 ≤ x ∧ x < 256 := by
  intro x hx
  obtain ⟨a, _, ha⟩ := List.mem_flatMap.1 hx
  exact h a x ha
theorem bytes_encL (a0 a1 a2 a3 a4 : Int) (l5 : List S70) (a6 a7 a8 a9 a10 a11 a12 : Int) (l13 : List S53) (l14 : List S77) (a15 : Nat) : ∀ x ∈ encL a0 a1 a2 a3 a4 l5 a6 a7 a8 a9 a10 a11 a12 l13 l14 a15, 0 ≤ x ∧ x < 256 := by
  have b := le_byte
  have bU : ∀ x ∈ l5.flatMap encU, 0 ≤ x ∧ x < 256 := bytes_flat _ (fun u => by simp only [encU, List.forall_mem_append]; exact ⟨⟨b _ _, b _ _⟩, b _ _⟩) _
  have bP : ∀ x ∈ l13.flatMap encP, 0 ≤ x ∧ x < 256 := bytes_flat _ (fun u => by simp only [encP, List.forall_mem_append]; exact ⟨⟨⟨b _ _, b _ _⟩, b _ _⟩, b _ _, bytesOf_byte _⟩) _
  have bX : ∀ x ∈ l14.flatMap encX, 0 ≤ x ∧ x < 256 := bytes_flat _ (fun u => by simp only [encX, List.forall_mem_append]; exact ⟨b _ _, b _ _⟩) _
  simp only [encL, List.forall_mem_append]
  exact ⟨⟨⟨⟨⟨⟨⟨⟨⟨⟨by simp, ⟨b _ _, b _ _⟩, b _ _⟩, b _ _⟩, b _ _, b _ _⟩, bU⟩, ⟨⟨⟨⟨⟨b _ _, b _ _⟩, b _ _⟩, b _ _⟩, b _ _⟩, b _ _⟩, b _ _⟩, b _ _⟩, bP⟩, b _ _⟩, bX⟩, b _ _⟩
set_option maxHeartbeats 2000000 in
/-- what was encoded is decoded -/
theorem dec_enc (a0 a1 a2 a3 a4 : Int) (l5 : List S70) (a6 a7 a8 a9 a10 a11 a12 : Int) (l13 : List S53) (l14 : List S77) (a15 : Nat) (hm : mayL a0 a1 a2 a4 l5 l13 l14 a15 = true) (ho : okL a0 a1 a2 a3 a4 l5 a6 a7 a8 a9 a10 a11 a12 l13 l14 a15 = true) (hx : a15 < 18446744073709551616) :
    decP (strOfNums (encL a0 a1 a2 a3 a4 l5 a6 a7 a8 a9 a10 a11 a12 l13 l14 a15)) = .ok ⟨a0, a1, a2, a3, a4, l5, ⟨a6, a7⟩, a8, a9, ⟨a10, a11⟩, a12, l13, l14, a15⟩ := by
  have F := fine a0 a1 a2 a3 a4 l5 a6 a7 a8 a9 a10 a11 a12 l13 l14 a15 hm ho
  have hf : rbits a15 = (a15 : Int) := by
    simp only [mayL, Bool.and_eq_true, decide_eq_true_eq] at hm
    exact rbits_self a15 hm.2.2.2.2.2.2.2.2.2.2.2.1
  have H0 : At (strOfNums (encL a0 a1 a2 a3 a4 l5 a6 a7 a8 a9 a10 a11 a12 l13 l14 a15)) 0 (encL a0 a1 a2 a3 a4 l5 a6 a7 a8 a9 a10 a11 a12 l13 l14 a15) :=
    ⟨[], [], by simp, rfl, by
      rw [List.nil_append, List.append_nil]
      exact bytes_encL _ _ _ _ _ _ _ _ _ _ _ _ _ _ _ _⟩
  have hsz : (strOfNums (encL a0 a1 a2 a3 a4 l5 a6 a7 a8 a9 a10 a11 a12 l13 l14 a15)).size = 79 + 10 * l5.length + sumP l13 + 16 * l14.length := by rw [strOfNums_size, len_encL]
  generalize strOfNums (encL a0 a1 a2 a3 a4 l5 a6 a7 a8 a9 a10 a11 a12 l13 l14 a15) = S at H0 hsz ⊢
  unfold encL at H0
  rw [List.nil_append] at H0
  have hl := H0.right; have H := H0.left
  have hx14 := H.right; have H := H.left
  have hn14 := H.right; have H := H.left
  have hx13 := H.right; have H := H.left
  have hn13 := H.right; have H := H.left
  have hv := H.right; have H := H.left
  have hx5 := H.right; have H := H.left
  have h4 := H.right.left; have hn5 := H.right.right; have H := H.left
  have h3 := H.right; have H := H.left
  have h2 := H.right; have H := H.left
  have h1 := H.right; have h0 := H.left
  have v12 := hv.right; have hv := hv.left
  have v11 := hv.right; have hv := hv.left
  have v10 := hv.right; have hv := hv.left
  have v9 := hv.right; have hv := hv.left
  have v8 := hv.right; have hv := hv.left
  have v7 := hv.right; have v6 := hv.left
  clear H H0
  simp only [List.length_append, le_length, len_encU, len_encP, len_encX] at hl hx14 hn14 hx13 hn13 v12 v11 v10 v9 v8 v7 v6 hx5 h4 hn5 h3 h2 h1 h0
  obtain ⟨q, hq⟩ : ∃ q, q = 13 + 10 * l5.length := ⟨_, rfl⟩
  obtain ⟨q2, hq2⟩ : ∃ q2, q2 = q + 56 := ⟨_, rfl⟩
  obtain ⟨q3, hq3⟩ : ∃ q3, q3 = q2 + 1 + sumP l13 := ⟨_, rfl⟩
  obtain ⟨q4, hq4⟩ : ∃ q4, q4 = q3 + 1 + 16 * l14.length := ⟨_, rfl⟩
  have at_eq : ∀ {p p' : Nat} {L : List Int}, At S p L → p = p' → At S p' L := fun h e => e ▸ h
  have R0 := (at_eq h0 (p' := 0) (by omega)).one F.r0
  have R1 := (at_eq h1 (p' := 1) (by omega)).one F.r1
  have R2 := (at_eq h2 (p' := 2) (by omega)).one F.r2
  have R3 := (at_eq h3 (p' := 3) (by omega)).u64 F.r3
  have R4 := (at_eq h4 (p' := 11) (by omega)).one F.r4
  have R6 := (at_eq v6 (p' := q) (by omega)).u64 F.r6
  have R7 := (at_eq v7 (p' := q + 8) (by omega)).u64 F.r7
  have R8 := (at_eq v8 (p' := q + 16) (by omega)).u64 F.r8
  have R9 := (at_eq v9 (p' := q + 24) (by omega)).u64 F.r9
  have R10 := (at_eq v10 (p' := q + 32) (by omega)).u64 F.r10
  have R11 := (at_eq v11 (p' := q + 32 + 8) (by omega)).u64 F.r11
  have R12 := (at_eq v12 (p' := q + 48) (by omega)).u64 F.r12
  have RL := (at_eq hl (p' := q4) (by omega)).u64 (by rw [hf]; omega)
  have L5 := list_it S (itU S) encU _ (fun x p => it_U S x p) 8 (by decide) l5 12 F.u5 F.n5 (at_eq hn5 (by omega)) (at_eq hx5 (by omega))
  have L13 := list_it S (itP S) encP _ (fun x p => it_P S x p) 6 (by decide) l13 q2 F.u13 F.n13 (at_eq hn13 (by omega)) (at_eq hx13 (by omega))
  have L14 := list_it S (itX S) encX _ (fun x p => it_X S x p) 16 (by decide) l14 q3 F.u14 F.n14 (at_eq hn14 (by omega)) (at_eq hx14 (by omega))
  rw [len_encU, show 12 + 1 + 10 * l5.length = q by omega] at L5
  rw [len_encP, ← hq3] at L13
  rw [len_encX, ← hq4] at L14
  have hlo : loadF S q4 = a15 := by unfold loadF; rw [RL, hf, Int.toNat_natCast, hf, Int.toNat_natCast]
  unfold decP; rw [if_neg (by omega)]
  unfold d1; rw [if_neg (by omega)]
  unfold d2; rw [if_neg (by omega)]
  unfold d3; rw [if_neg (by omega)]
  unfold d4; rw [if_neg (by omega)]
  unfold d5; rw [show (8 : Int) = ((8 : Nat) : Int) from rfl, L5]
  show d6 S l5 q = _
  unfold d6; rw [if_neg (by omega)]
  unfold d7; rw [if_neg (by omega)]
  unfold d8; rw [if_neg (by omega)]
  unfold d9; rw [if_neg (by omega)]
  unfold d10; rw [if_neg (by omega)]
  unfold d11; rw [← hq2, show (6 : Int) = ((6 : Nat) : Int) from rfl, L13]
  show d12 S l5 q l13 q3 = _
  unfold d12; rw [show (16 : Int) = ((16 : Nat) : Int) from rfl, L14]
  show d13 S l5 q l13 l14 q4 = _
  have hm0 := hm
  simp only [mayL, Bool.and_eq_true, decide_eq_true_eq] at hm
  unfold d13; rw [if_neg (by omega)]
  unfold d14; rw [if_neg (by omega)]
  unfold d15; rw [R0, if_neg (by omega)]
  unfold d16; rw [R0, R1, R2, R4, hlo, if_neg (by rw [hm0]; decide)]
  unfold letterOf
  rw [R0, R1, R2, R3, R4, R6, R7, R8, R9, R10, R11, R12, hlo]
end Go.Proofs.Ytondgoabnmgcaaa.B
end
section
/- By hand: a sealed text with one byte that is another one is not opened. -/
namespace Go.Proofs.Ytondgoabnmgcaaa.B
open Go.RowKit Go.Proofs.YtondgoabnmgcaaaW.PrintWords Go.Proofs.YtondgoabnmgcaaaW.PrintLast Go.Proofs.YtondgoabnmgcaaaW.PrintMore
open Go.Proofs.YtondgoabnmgcaaaG.Crc (run feed steps run_xor steps_xor steps_add steps_ne)
open Go.Proofs.YtondgoabnmgcaaaG.Pure (four four_size sealed_last open_turned)
def spoil (l : List UInt8) (j : Nat) (b : UInt8) : List UInt8 := l.set j (l.getD j 0 ^^^ b)
theorem spoil_len (l : List UInt8) (j : Nat) (b : UInt8) : (spoil l j b).length = l.length := by unfold spoil; rw [List.length_set]
theorem spoil_run : ∀ (l : List UInt8) (j x : Nat) (b : UInt8), j < l.length → run (spoil l j b) x = run l x ^^^ steps (8 * (l.length - j)) b.toNat
  | [], j, x, b, h => by simp at h
  | c :: l, 0, x, b, h => by
    show run l (feed x (c ^^^ b).toNat) = run l (feed x c.toNat) ^^^ _
    have e1 : feed x (c ^^^ b).toNat = feed x c.toNat ^^^ steps 8 b.toNat := by
      unfold feed
      rw [UInt8.toNat_xor, ← Nat.xor_assoc, steps_xor]
    rw [e1, run_xor, ← steps_add, List.length_cons, show 8 + 8 * l.length = 8 * (l.length + 1 - 0) by omega]
  | c :: l, j + 1, x, b, h => by
    show run (spoil l j b) (feed x c.toNat) = run l (feed x c.toNat) ^^^ _
    rw [spoil_run l j _ b (by simpa using h), List.length_cons, show l.length + 1 - (j + 1) = l.length - j by omega]
theorem open_spoilt (s : ByteArray) (hs : s.size ≤ 3990) (j : Nat) (hj : j < s.size + 4) (b : UInt8) (hb : b ≠ 0) :
    Go.Proofs.YtondgoabnmgcaaaG.B.guard_Open.f ⟨(spoil (sealS s).data.toList j b).toArray⟩ = some ((⟨#[]⟩ : ByteArray), 20) := by
  obtain ⟨I, hI⟩ : ∃ I : Nat, I = 4294967295 := ⟨_, rfl⟩
  have h3 := sealed_last s
  have hz : (sealS s).size = s.size + 4 := by unfold sealS; rw [ByteArray.size_append, four_size]
  have hl : (sealS s).data.toList.length = s.size + 4 := by rw [data_length, hz]
  have hl2 : (spoil (sealS s).data.toList j b).length = s.size + 4 := by rw [spoil_len, hl]
  have hsz : (⟨(spoil (sealS s).data.toList j b).toArray⟩ : ByteArray).size = s.size + 4 := by rw [← data_length]; exact hl2
  refine open_turned _ (steps (8 * (s.size + 4 - j)) b.toNat) (by omega) (by omega) ?_ ?_
  · show run (spoil (sealS s).data.toList j b) _ = _
    rw [spoil_run _ j _ b (by omega), hl]
    congr 1
  · intro h0
    refine hb (UInt8.toNat_inj.1 (steps_ne _ ?_ h0))
    have := b.toNat_lt
    omega
end Go.Proofs.Ytondgoabnmgcaaa.B
end
section
/- By hand: the walk of LetterBack (printed by back.py). -/
namespace Go.Proofs.Ytondgoabnmgcaaa.B
open Go.RowKit Go.Proofs.YtondgoabnmgcaaaW.PrintWords Go.Proofs.YtondgoabnmgcaaaW.PrintLast Go.Proofs.YtondgoabnmgcaaaW.PrintMore
open Go.Proofs.Ytondgoabnmgcaaa.Pure (heavyB heavy_is)
set_option linter.unusedSimpArgs false
set_option linter.unusedVariables false
set_option maxRecDepth 100000 in
set_option maxHeartbeats 4000000 in
theorem back_heavy (a0 a1 a2 a3 a4 : Int) (A5 : Option Addr) (c5 : Nat) (l5 : List S70) (a6 a7 a8 a9 a10 a11 a12 : Int) (A13 : Option Addr) (c13 : Nat) (l13 : List S53) (A14 : Option Addr) (c14 : Nat) (l14 : List S77) (a15 : Nat) (cut m : Int) (w : World) (hr5 : Kd.C k70 w A5 l5.length l5) (hc5 : l5.length ≤ c5) (hr13 : Kd.C k53 w A13 l13.length l13) (hc13 : l13.length ≤ c13) (hr14 : Kd.C k77 w A14 l14.length l14) (hc14 : l14.length ≤ c14) (hl : l13.length ≤ maxLen) (hh : heavyB l5 l13 l14 = true) :
    Calls Try.prog 4 #[.agg #[.int .i64 a0, .int .i64 a1, .int .i64 a2, .int .u64 a3, .int .i64 a4, .slice A5 l5.length c5, .int .u64 a6, .int .u64 a7, .int .u64 a8, .int .u64 a9, .int .u64 a10, .int .u64 a11, .int .u64 a12, .slice A13 l13.length c13, .slice A14 l14.length c14, .float .f64 a15], .int .u16 cut, .int .u8 m] w fun e w' => e = .returned (.bool true) ∧ Below w.heap.size w w' := by
  have H5 := Aside0.mk hr5
  have H13 := Aside0.mk hr13
  have H14 := Aside0.mk hr14
  have HC5 := Aside0.mk hc5
  have HC13 := Aside0.mk hc13
  have HC14 := Aside0.mk hc14
  have si32 := si32
  have HH := Aside0.mk (heavy_is a0 a1 a2 a3 a4 l5 a6 a7 a8 a9 a10 a11 a12 l13 l14 a15 hl (l13.length + 2) (by omega))
  rw [hh] at HH
  clear hr5 hr13 hr14 hc5 hc13 hc14 hl hh
  go_enter Try.func4, Try.ntmps4
  go_wp2_with (first
    | ((with_reducible refine gate_dst (N := 3) rfl ?_); refine box_event ?hg (N := 3) ?hd (cs := #[.int .i64 a0, .int .i64 a1, .int .i64 a2, .int .u64 a3, .int .i64 a4, .slice A5 l5.length c5, .int .u64 a6, .int .u64 a7, .int .u64 a8, .int .u64 a9, .int .u64 a10, .int .u64 a11, .int .u64 a12, .slice A13 l13.length c13, .slice A14 l14.length c14, .float .f64 a15]) (t := 32) ?hr ?_; (case hd => rfl); (case hg => rfl); (case hr => first | (go_simp; done) | (go_simp; rfl)); intro g1 hg_ w1 hb_ hB_; have K1 := Aside0.mk hb_; have L1 := Aside0.mk (Nat.le_of_eq hg_.symm); have B1 := Aside0.mk hB_; clear hg_ hb_ hB_)
    | (refine wpList_load_row rfl 32 (.tmp 3) rfl g1 rfl 32 #[.int .i64 a0, .int .i64 a1, .int .i64 a2, .int .u64 a3, .int .i64 a4, .slice A5 l5.length c5, .int .u64 a6, .int .u64 a7, .int .u64 a8, .int .u64 a9, .int .u64 a10, .int .u64 a11, .int .u64 a12, .slice A13 l13.length c13, .slice A14 l14.length c14, .float .f64 a15] (0, 0) _ K1.out Try.underlying32 rfl si32 ?_)
    | (go_at_call 15; refine (conventiclelaw15_heavy.calls (l13.length + 2) a0 a1 a2 a3 a4 A5 c5 l5 a6 a7 a8 a9 a10 a11 a12 A13 c13 l13 A14 c14 l14 a15 _ _ (Kd.C_below H5.out B1.out) HC5.out (Kd.C_below H13.out B1.out) HC13.out (Kd.C_below H14.out B1.out) HC14.out HH.out).mono ?_; rintro e w2 ⟨rfl, hb⟩; have K2 := Aside0.mk (blk_below K1.out hb); have B2 := Aside0.mk (below_step B1.out hb); clear hb K1 B1)
    | (go_at_call 8; refine (conventiclelaw15_shown.calls true _ rfl).mono ?_; rintro e w3 ⟨rfl, hb⟩; have K3 := Aside0.mk (blk_below K2.out hb); have B3 := Aside0.mk (below_step B2.out hb); clear hb K2 B2)
    | (refine wpList_load_row rfl 32 (.tmp 3) rfl g1 rfl 32 #[.int .i64 a0, .int .i64 a1, .int .i64 a2, .int .u64 a3, .int .i64 a4, .slice A5 l5.length c5, .int .u64 a6, .int .u64 a7, .int .u64 a8, .int .u64 a9, .int .u64 a10, .int .u64 a11, .int .u64 a12, .slice A13 l13.length c13, .slice A14 l14.length c14, .float .f64 a15] (0, 0) _ K3.out Try.underlying32 rfl si32 ?_)
    | (go_at_call 8; refine (conventiclelaw15_shown.calls true _ rfl).mono ?_; rintro e w3 ⟨rfl, hb⟩; have B3 := Aside0.mk (below_step B2.out hb); clear hb))
  go_ret
  exact ⟨rfl, B3.out⟩
set_option maxRecDepth 100000 in
set_option maxHeartbeats 4000000 in
theorem back_no (a0 a1 a2 a3 a4 : Int) (A5 : Option Addr) (c5 : Nat) (l5 : List S70) (a6 a7 a8 a9 a10 a11 a12 : Int) (A13 : Option Addr) (c13 : Nat) (l13 : List S53) (A14 : Option Addr) (c14 : Nat) (l14 : List S77) (a15 : Nat) (cut m : Int) (w : World) (hr5 : Kd.C k70 w A5 l5.length l5) (hc5 : l5.length ≤ c5) (hr13 : Kd.C k53 w A13 l13.length l13) (hc13 : l13.length ≤ c13) (hr14 : Kd.C k77 w A14 l14.length l14) (hc14 : l14.length ≤ c14) (hl : l13.length ≤ maxLen) (hh : heavyB l5 l13 l14 = false) (hm : mayL a0 a1 a2 a4 l5 l13 l14 a15 = false) :
    Calls Try.prog 4 #[.agg #[.int .i64 a0, .int .i64 a1, .int .i64 a2, .int .u64 a3, .int .i64 a4, .slice A5 l5.length c5, .int .u64 a6, .int .u64 a7, .int .u64 a8, .int .u64 a9, .int .u64 a10, .int .u64 a11, .int .u64 a12, .slice A13 l13.length c13, .slice A14 l14.length c14, .float .f64 a15], .int .u16 cut, .int .u8 m] w fun e w' => e = .returned (.bool true) ∧ Below w.heap.size w w' := by
  have H5 := Aside0.mk hr5
  have H13 := Aside0.mk hr13
  have H14 := Aside0.mk hr14
  have HC5 := Aside0.mk hc5
  have HC13 := Aside0.mk hc13
  have HC14 := Aside0.mk hc14
  have si32 := si32
  have HH := Aside0.mk (heavy_is a0 a1 a2 a3 a4 l5 a6 a7 a8 a9 a10 a11 a12 l13 l14 a15 hl (l13.length + 2) (by omega))
  rw [hh] at HH
  have HE : Aside0 (letter_Encode.f a0 a1 a2 a3 a4 l5 a6 a7 a8 a9 a10 a11 a12 l13 l14 a15 = some (⟨#[]⟩, 1)) := ⟨by unfold letter_Encode.f; rw [if_pos hm]⟩
  clear hr5 hr13 hr14 hc5 hc13 hc14 hl hh hm
  go_enter Try.func4, Try.ntmps4
  go_wp2_with (first
    | ((with_reducible refine gate_dst (N := 3) rfl ?_); refine box_event ?hg (N := 3) ?hd (cs := #[.int .i64 a0, .int .i64 a1, .int .i64 a2, .int .u64 a3, .int .i64 a4, .slice A5 l5.length c5, .int .u64 a6, .int .u64 a7, .int .u64 a8, .int .u64 a9, .int .u64 a10, .int .u64 a11, .int .u64 a12, .slice A13 l13.length c13, .slice A14 l14.length c14, .float .f64 a15]) (t := 32) ?hr ?_; (case hd => rfl); (case hg => rfl); (case hr => first | (go_simp; done) | (go_simp; rfl)); intro g1 hg_ w1 hb_ hB_; have K1 := Aside0.mk hb_; have L1 := Aside0.mk (Nat.le_of_eq hg_.symm); have B1 := Aside0.mk hB_; clear hg_ hb_ hB_)
    | (refine wpList_load_row rfl 32 (.tmp 3) rfl g1 rfl 32 #[.int .i64 a0, .int .i64 a1, .int .i64 a2, .int .u64 a3, .int .i64 a4, .slice A5 l5.length c5, .int .u64 a6, .int .u64 a7, .int .u64 a8, .int .u64 a9, .int .u64 a10, .int .u64 a11, .int .u64 a12, .slice A13 l13.length c13, .slice A14 l14.length c14, .float .f64 a15] (0, 0) _ K1.out Try.underlying32 rfl si32 ?_)
    | (go_at_call 15; refine (conventiclelaw15_heavy.calls (l13.length + 2) a0 a1 a2 a3 a4 A5 c5 l5 a6 a7 a8 a9 a10 a11 a12 A13 c13 l13 A14 c14 l14 a15 _ _ (Kd.C_below H5.out B1.out) HC5.out (Kd.C_below H13.out B1.out) HC13.out (Kd.C_below H14.out B1.out) HC14.out HH.out).mono ?_; rintro e w2 ⟨rfl, hb⟩; have K2 := Aside0.mk (blk_below K1.out hb); have B2 := Aside0.mk (below_step B1.out hb); clear hb K1 B1)
    | (go_at_call 8; refine (conventiclelaw15_shown.calls true _ rfl).mono ?_; rintro e w3 ⟨rfl, hb⟩; have K3 := Aside0.mk (blk_below K2.out hb); have B3 := Aside0.mk (below_step B2.out hb); clear hb K2 B2)
    | (refine wpList_load_row rfl 32 (.tmp 3) rfl g1 rfl 32 #[.int .i64 a0, .int .i64 a1, .int .i64 a2, .int .u64 a3, .int .i64 a4, .slice A5 l5.length c5, .int .u64 a6, .int .u64 a7, .int .u64 a8, .int .u64 a9, .int .u64 a10, .int .u64 a11, .int .u64 a12, .slice A13 l13.length c13, .slice A14 l14.length c14, .float .f64 a15] (0, 0) _ K3.out Try.underlying32 rfl si32 ?_)
    | (go_at_call 14; refine (letter_Encode.calls a0 a1 a2 a3 a4 A5 c5 l5 a6 a7 a8 a9 a10 a11 a12 A13 c13 l13 A14 c14 l14 a15 _ _ _ (Kd.C_below H5.out B3.out) HC5.out (Kd.C_below H13.out B3.out) HC13.out (Kd.C_below H14.out B3.out) HC14.out HE.out).mono ?_; rintro e w4 ⟨rfl, hb⟩; have B4 := Aside0.mk (below_step B3.out hb); clear hb))
  go_ret
  exact ⟨rfl, B4.out⟩
/-- the bytes l, in the block g -/
def RowB (w : World) (g : Nat) (l : List UInt8) : Prop := (∀ j (hj : j < l.length), w.cell? ⟨g, j, none⟩ = some (.int .u8 ((l[j]).toNat : Int))) ∧ ∀ j, j < l.length → w.frozen? ⟨g, j, none⟩ = false
theorem row_yields {o : Oper} {a : Act} {w : World} (x : Operand) (ho : o.op = .load 32 x)
    (g : Nat) (hx : a.eval x = .pointer (some ⟨g, 0, none⟩)) (t : TypeId) (cs : Array Value) (fr : Nat × Nat) (hg : w.heap[g]? = some (.cells cs t fr))
    (hi : (Try.prog.info? 32).map (·.size) = some cs.size) :
    (execOp a.eval o).run Try.prog w = .ok (.value (.agg cs)) w := by
  unfold execOp
  simp only [ho, hx, Instr.loadAt, Instr.sureAddr, Sem.run_bind, Sem.run_pure, Result.andThen_ok, run_loadVar_row w g t 32 cs fr _ hg Try.underlying32 rfl hi]
set_option maxRecDepth 100000 in
set_option maxHeartbeats 4000000 in
theorem back_ok (a0 a1 a2 a3 a4 : Int) (A5 : Option Addr) (c5 : Nat) (l5 : List S70) (a6 a7 a8 a9 a10 a11 a12 : Int) (A13 : Option Addr) (c13 : Nat) (l13 : List S53) (A14 : Option Addr) (c14 : Nat) (l14 : List S77) (a15 : Nat) (cut m : Int) (w : World) (hr5 : Kd.C k70 w A5 l5.length l5) (hc5 : l5.length ≤ c5) (hr13 : Kd.C k53 w A13 l13.length l13) (hc13 : l13.length ≤ c13) (hr14 : Kd.C k77 w A14 l14.length l14) (hc14 : l14.length ≤ c14) (hl : l13.length ≤ maxLen) (hh : heavyB l5 l13 l14 = false) (T : ByteArray) (he : letter_Encode.f a0 a1 a2 a3 a4 l5 a6 a7 a8 a9 a10 a11 a12 l13 l14 a15 = some (T, 0)) (hd : letter_Decode.f T = some (a0, a1, a2, a3, a4, l5, a6, a7, a8, a9, a10, a11, a12, l13, l14, a15, 0)) (hz : 4 ≤ T.size) (hz2 : T.size ≤ 4000) (hx : ∀ (j : Nat) (b : UInt8), j < T.size → b ≠ 0 → letter_Decode.f ⟨(spoil T.data.toList j b).toArray⟩ = some (0, 0, 0, 0, 0, [], 0, 0, 0, 0, 0, 0, 0, [], [], 0, 20)) (hc : 0 ≤ cut ∧ cut < 65536) (hm : 0 ≤ m ∧ m < 256) :
    Calls Try.prog 4 #[.agg #[.int .i64 a0, .int .i64 a1, .int .i64 a2, .int .u64 a3, .int .i64 a4, .slice A5 l5.length c5, .int .u64 a6, .int .u64 a7, .int .u64 a8, .int .u64 a9, .int .u64 a10, .int .u64 a11, .int .u64 a12, .slice A13 l13.length c13, .slice A14 l14.length c14, .float .f64 a15], .int .u16 cut, .int .u8 m] w fun e w' => e = .returned (.bool true) ∧ Below w.heap.size w w' := by
  have H5 := Aside0.mk hr5
  have H13 := Aside0.mk hr13
  have H14 := Aside0.mk hr14
  have HC5 := Aside0.mk hc5
  have HC13 := Aside0.mk hc13
  have HC14 := Aside0.mk hc14
  have si32 := si32
  have HH := Aside0.mk (heavy_is a0 a1 a2 a3 a4 l5 a6 a7 a8 a9 a10 a11 a12 l13 l14 a15 hl (l13.length + 2) (by omega))
  rw [hh] at HH
  have HE := Aside0.mk he
  have HD := Aside0.mk hd
  have HZ := Aside0.mk hz
  have HZ2 := Aside0.mk hz2
  have HX := Aside0.mk hx
  have HC := Aside0.mk hc
  have HM := Aside0.mk hm
  have hl3 : l13.length ≤ 1000 := by have := hh; simp [heavyB] at this; omega
  have HL := Aside0.mk hl3
  have hS := same_self a0 a1 a2 a3 a4 l5 a6 a7 a8 a9 a10 a11 a12 (l13.map to90) l14 a15 (by have := hh; simp [heavyB] at this; omega) (by rw [List.length_map]; omega) (by have := hh; simp [heavyB] at this; omega)
  obtain ⟨r13, hr⟩ : ∃ r, r = l13.map to90 := ⟨_, rfl⟩
  rw [← hr] at hS
  have HS := Aside0.mk hS
  have HR := Aside0.mk hr
  clear hr5 hr13 hr14 hc5 hc13 hc14 hl hh he hd hz hz2 hx hc hm hl3 hS hr
  go_enter Try.func4, Try.ntmps4
  go_upto_region 7 with (first
    | ((with_reducible refine gate_dst (N := 3) rfl ?_); refine box_event ?hg (N := 3) ?hd (cs := #[.int .i64 a0, .int .i64 a1, .int .i64 a2, .int .u64 a3, .int .i64 a4, .slice A5 l5.length c5, .int .u64 a6, .int .u64 a7, .int .u64 a8, .int .u64 a9, .int .u64 a10, .int .u64 a11, .int .u64 a12, .slice A13 l13.length c13, .slice A14 l14.length c14, .float .f64 a15]) (t := 32) ?hr ?_; (case hd => rfl); (case hg => rfl); (case hr => first | (go_simp; done) | (go_simp; rfl)); intro g1 hg_ w1 hb_ hB_; have K1 := Aside0.mk hb_; have L1 := Aside0.mk (Nat.le_of_eq hg_.symm); have B1 := Aside0.mk hB_; clear hg_ hb_ hB_)
    | (refine wpList_load_row rfl 32 (.tmp 3) rfl g1 rfl 32 #[.int .i64 a0, .int .i64 a1, .int .i64 a2, .int .u64 a3, .int .i64 a4, .slice A5 l5.length c5, .int .u64 a6, .int .u64 a7, .int .u64 a8, .int .u64 a9, .int .u64 a10, .int .u64 a11, .int .u64 a12, .slice A13 l13.length c13, .slice A14 l14.length c14, .float .f64 a15] (0, 0) _ K1.out Try.underlying32 rfl si32 ?_)
    | (go_at_call 15; refine (conventiclelaw15_heavy.calls (l13.length + 2) a0 a1 a2 a3 a4 A5 c5 l5 a6 a7 a8 a9 a10 a11 a12 A13 c13 l13 A14 c14 l14 a15 _ _ (Kd.C_below H5.out B1.out) HC5.out (Kd.C_below H13.out B1.out) HC13.out (Kd.C_below H14.out B1.out) HC14.out HH.out).mono ?_; rintro e w2 ⟨rfl, hb⟩; have K2 := Aside0.mk (blk_below K1.out hb); have B2 := Aside0.mk (below_step B1.out hb); clear hb K1 B1)
    | (go_at_call 8; refine (conventiclelaw15_shown.calls true _ rfl).mono ?_; rintro e w3 ⟨rfl, hb⟩; have K3 := Aside0.mk (blk_below K2.out hb); have B3 := Aside0.mk (below_step B2.out hb); clear hb K2 B2)
    | (refine wpList_load_row rfl 32 (.tmp 3) rfl g1 rfl 32 #[.int .i64 a0, .int .i64 a1, .int .i64 a2, .int .u64 a3, .int .i64 a4, .slice A5 l5.length c5, .int .u64 a6, .int .u64 a7, .int .u64 a8, .int .u64 a9, .int .u64 a10, .int .u64 a11, .int .u64 a12, .slice A13 l13.length c13, .slice A14 l14.length c14, .float .f64 a15] (0, 0) _ K3.out Try.underlying32 rfl si32 ?_)
    | (go_at_call 14; refine (letter_Encode.calls a0 a1 a2 a3 a4 A5 c5 l5 a6 a7 a8 a9 a10 a11 a12 A13 c13 l13 A14 c14 l14 a15 _ _ _ (Kd.C_below H5.out B3.out) HC5.out (Kd.C_below H13.out B3.out) HC13.out (Kd.C_below H14.out B3.out) HC14.out HE.out).mono ?_; rintro e w4 ⟨rfl, hb⟩; have K4 := Aside0.mk (blk_below K3.out hb); have B4 := Aside0.mk (below_step B3.out hb); clear hb K3 B3)
    | (go_at_call 10; refine (letter_Decode.calls T a0 a1 a2 a3 a4 l5 a6 a7 a8 a9 a10 a11 a12 l13 l14 a15 0 _ HD.out).mono ?_; rintro e w5 ⟨v5, v13, v14, rfl, r5, r13_, r14, hb⟩; obtain ⟨B5, d5, rfl⟩ := Kd.R_slice r5; obtain ⟨B13, d13, rfl⟩ := Kd.R_slice r13_; obtain ⟨B14, d14, rfl⟩ := Kd.R_slice r14; have R5 := Aside0.mk r5; have R13 := Aside0.mk r13_; have R14 := Aside0.mk r14; have K5 := Aside0.mk (blk_below K4.out hb); have B5_ := Aside0.mk (below_step B4.out hb); clear r5 r13_ r14 hb K4 B4)
    | ((with_reducible refine gate_dst (N := 9) rfl ?_); refine box_event ?hg (N := 9) ?hd (cs := #[.int .i64 0, .int .i64 0, .int .i64 0, .int .u64 0, .int .i64 0, .slice none 0 0, .int .u64 0, .int .u64 0, .int .u64 0, .int .u64 0, .int .u64 0, .int .u64 0, .int .u64 0, .slice none 0 0, .slice none 0 0, .float .f64 0]) (t := 32) ?hr ?_; (case hd => rfl); (case hg => rfl); (case hr => first | (go_simp; done) | (go_simp; rfl)); intro g9 hg_ w7 hb_ hB_; have K9 := Aside0.mk hb_; have L9 := Aside0.mk (show w.heap.size ≤ g9 by rw [hg_]; exact B5_.out.size); have N19 := Aside0.mk (show g1 ≠ g9 by have := blk_lt K5.out; omega); have K7 := Aside0.mk (blk_below K5.out hB_); have B7 := Aside0.mk (below_step B5_.out hB_); have R5' := Aside0.mk (Kd.R_below R5.out hB_); have R13' := Aside0.mk (Kd.R_below R13.out hB_); have R14' := Aside0.mk (Kd.R_below R14.out hB_); clear K5 B5_ R5 R13 R14 hg_ hb_ hB_)
    | ((with_reducible refine gate_store (t := 32) (p := 9) rfl ?_); go_loud (refine wpList_store_row rfl 32 (.tmp 9) (.tmp 37) rfl g9 #[.int .i64 a0, .int .i64 a1, .int .i64 a2, .int .u64 a3, .int .i64 a4, .slice B5 l5.length d5, .int .u64 a6, .int .u64 a7, .int .u64 a8, .int .u64 a9, .int .u64 a10, .int .u64 a11, .int .u64 a12, .slice B13 l13.length d13, .slice B14 l14.length d14, .float .f64 a15] rfl rfl 32 #[.int .i64 0, .int .i64 0, .int .i64 0, .int .u64 0, .int .i64 0, .slice none 0 0, .int .u64 0, .int .u64 0, .int .u64 0, .int .u64 0, .int .u64 0, .int .u64 0, .int .u64 0, .slice none 0 0, .slice none 0 0, .float .f64 0] K9.out si32 rfl (one_L _ _ _ _ _ _ _ _ _ _ _ _ _ _ _ _ _ _ _ _ _ _) ?_); have K6 := Aside0.mk (setRow_heap w7 g9 #[.int .i64 0, .int .i64 0, .int .i64 0, .int .u64 0, .int .i64 0, .slice none 0 0, .int .u64 0, .int .u64 0, .int .u64 0, .int .u64 0, .int .u64 0, .int .u64 0, .int .u64 0, .slice none 0 0, .slice none 0 0, .float .f64 0] #[.int .i64 a0, .int .i64 a1, .int .i64 a2, .int .u64 a3, .int .i64 a4, .slice B5 l5.length d5, .int .u64 a6, .int .u64 a7, .int .u64 a8, .int .u64 a9, .int .u64 a10, .int .u64 a11, .int .u64 a12, .slice B13 l13.length d13, .slice B14 l14.length d14, .float .f64 a15] 32 (0, 0) K9.out); have K1 := Aside0.mk ((setRow_other w7 g9 g1 #[.int .i64 a0, .int .i64 a1, .int .i64 a2, .int .u64 a3, .int .i64 a4, .slice B5 l5.length d5, .int .u64 a6, .int .u64 a7, .int .u64 a8, .int .u64 a9, .int .u64 a10, .int .u64 a11, .int .u64 a12, .slice B13 l13.length d13, .slice B14 l14.length d14, .float .f64 a15] N19.out).trans K7.out); have B6 := Aside0.mk (below_setRow B7.out L9.out #[.int .i64 a0, .int .i64 a1, .int .i64 a2, .int .u64 a3, .int .i64 a4, .slice B5 l5.length d5, .int .u64 a6, .int .u64 a7, .int .u64 a8, .int .u64 a9, .int .u64 a10, .int .u64 a11, .int .u64 a12, .slice B13 l13.length d13, .slice B14 l14.length d14, .float .f64 a15]); have R5 := Aside0.mk (row_step R5'.out K9.out (by decide) #[.int .i64 a0, .int .i64 a1, .int .i64 a2, .int .u64 a3, .int .i64 a4, .slice B5 l5.length d5, .int .u64 a6, .int .u64 a7, .int .u64 a8, .int .u64 a9, .int .u64 a10, .int .u64 a11, .int .u64 a12, .slice B13 l13.length d13, .slice B14 l14.length d14, .float .f64 a15]); have R13 := Aside0.mk (row_step R13'.out K9.out (by decide) #[.int .i64 a0, .int .i64 a1, .int .i64 a2, .int .u64 a3, .int .i64 a4, .slice B5 l5.length d5, .int .u64 a6, .int .u64 a7, .int .u64 a8, .int .u64 a9, .int .u64 a10, .int .u64 a11, .int .u64 a12, .slice B13 l13.length d13, .slice B14 l14.length d14, .float .f64 a15]); have R14 := Aside0.mk (row_step R14'.out K9.out (by decide) #[.int .i64 a0, .int .i64 a1, .int .i64 a2, .int .u64 a3, .int .i64 a4, .slice B5 l5.length d5, .int .u64 a6, .int .u64 a7, .int .u64 a8, .int .u64 a9, .int .u64 a10, .int .u64 a11, .int .u64 a12, .slice B13 l13.length d13, .slice B14 l14.length d14, .float .f64 a15]); generalize World.setRow w7 g9 _ = w6 at K6 K1 B6 R5 R13 R14 ⊢; clear K9 L9 K7 B7 R5' R13' R14'))
  refine start_ (n := 10) (S := fun w' => Below w6.drew.heap.size w6.drew w') (ds := []) #[false, false, false, false, false, false, false, false, false, false] (by kernel_rfl) rfl rfl (Below.refl _ _) (fun hHeld => ?_)
  have K1d := Aside0.mk (blk_drew K1.out)
  have K6d := Aside0.mk (blk_drew K6.out)
  have BD := Aside0.mk (below_drew1 B6.out)
  have HD5 := Aside0.mk (Kd.C_drew (Kd.R_reads' R5.out).2.2)
  have HD13 := Aside0.mk (Kd.C_drew (Kd.R_reads' R13.out).2.2)
  have HD14 := Aside0.mk (Kd.C_drew (Kd.R_reads' R14.out).2.2)
  have DC5 := Aside0.mk (Kd.R_reads' R5.out).2.1
  have DC14 := Aside0.mk (Kd.R_reads' R14.out).2.1
  clear K1 K6 B6 R5 R13 R14
  generalize w6.drew = wd at K1d K6d BD HD5 HD13 HD14 hHeld ⊢
  refine pure_ (i := 0) (N := some 39) (v := ?_) (a' := ?_) #[true, false, false, false, false, false, false, false, false, false] rfl rfl (by kernel_rfl) (fun _ _ _ h => h) (Or.inl ⟨by rfl, ?_⟩) ?_ ?_
  rotate_left
  · intro w'
    go_simp
    first | done | with_reducible rfl | rfl | (simp [Instr.field, go_sem]; rfl)
  rotate_left
  · simp only [Act.put, List.setIfInBounds_toArray, List.set_cons_zero, List.set_cons_succ, i64_w, i32_w]
    rfl
  refine pure_ (i := 1) (N := some 40) (v := ?_) (a' := ?_) #[true, true, false, false, false, false, false, false, false, false] rfl rfl (by kernel_rfl) (fun _ _ _ h => h) (Or.inl ⟨by rfl, ?_⟩) ?_ ?_
  rotate_left
  · intro w'
    go_simp
    first | done | with_reducible rfl | rfl | (simp [Instr.field, go_sem]; rfl)
  rotate_left
  · simp only [Act.put, List.setIfInBounds_toArray, List.set_cons_zero, List.set_cons_succ, i64_w, i32_w]
    rfl
  refine pure_ (i := 2) (N := some 41) (v := ?_) (a' := ?_) #[true, true, true, false, false, false, false, false, false, false] rfl rfl (by kernel_rfl) (fun _ _ _ h => h) (Or.inl ⟨by rfl, ?_⟩) ?_ ?_
  rotate_left
  · intro w'
    go_simp
    first | done | with_reducible rfl | rfl | (simp [Instr.field, go_sem]; rfl)
  rotate_left
  · simp only [Act.put, List.setIfInBounds_toArray, List.set_cons_zero, List.set_cons_succ, i64_w, i32_w]
    rfl
  refine take_ (i := 3) (N := some 42) (v := .agg #[.int .i64 a0, .int .i64 a1, .int .i64 a2, .int .u64 a3, .int .i64 a4, .slice B5 l5.length d5, .int .u64 a6, .int .u64 a7, .int .u64 a8, .int .u64 a9, .int .u64 a10, .int .u64 a11, .int .u64 a12, .slice B13 l13.length d13, .slice B14 l14.length d14, .float .f64 a15]) (a' := ?_) #[true, true, true, true, false, false, false, false, false, false] rfl rfl (by kernel_rfl) (fun _ _ _ h => h) (Or.inl ⟨by rfl, ?_⟩) hHeld ?_ ?_
  · rintro w' s0
    exact row_yields _ rfl g9 rfl 32 #[.int .i64 a0, .int .i64 a1, .int .i64 a2, .int .u64 a3, .int .i64 a4, .slice B5 l5.length d5, .int .u64 a6, .int .u64 a7, .int .u64 a8, .int .u64 a9, .int .u64 a10, .int .u64 a11, .int .u64 a12, .slice B13 l13.length d13, .slice B14 l14.length d14, .float .f64 a15] (0, 0) (blk_below K6d.out s0) si32
  rotate_left
  · simp only [Act.put, List.setIfInBounds_toArray, List.set_cons_zero, List.set_cons_succ, i64_w, i32_w]
    rfl
  refine take_ (i := 5) (N := some 44) (v := .agg #[.int .i64 a0, .int .i64 a1, .int .i64 a2, .int .u64 a3, .int .i64 a4, .slice A5 l5.length c5, .int .u64 a6, .int .u64 a7, .int .u64 a8, .int .u64 a9, .int .u64 a10, .int .u64 a11, .int .u64 a12, .slice A13 l13.length c13, .slice A14 l14.length c14, .float .f64 a15]) (a' := ?_) #[true, true, true, true, false, true, false, false, false, false] rfl rfl (by kernel_rfl) (fun _ _ _ h => h) (Or.inl ⟨by rfl, ?_⟩) hHeld ?_ ?_
  · rintro w' s0
    exact row_yields _ rfl g1 rfl 32 #[.int .i64 a0, .int .i64 a1, .int .i64 a2, .int .u64 a3, .int .i64 a4, .slice A5 l5.length c5, .int .u64 a6, .int .u64 a7, .int .u64 a8, .int .u64 a9, .int .u64 a10, .int .u64 a11, .int .u64 a12, .slice A13 l13.length c13, .slice A14 l14.length c14, .float .f64 a15] (0, 0) (blk_below K1d.out s0) si32
  rotate_left
  · simp only [Act.put, List.setIfInBounds_toArray, List.set_cons_zero, List.set_cons_succ, i64_w, i32_w]
    rfl
  refine one_ (i := 4) (N := some 43) #[true, true, true, true, true, true, false, false, false, false] rfl rfl (by kernel_rfl) (by decide) (fun K hK => ?_)
  refine goes_ Try.func13 (by kernel_rfl) rfl #[.agg #[.int .i64 a0, .int .i64 a1, .int .i64 a2, .int .u64 a3, .int .i64 a4, .slice B5 l5.length d5, .int .u64 a6, .int .u64 a7, .int .u64 a8, .int .u64 a9, .int .u64 a10, .int .u64 a11, .int .u64 a12, .slice B13 l13.length d13, .slice B14 l14.length d14, .float .f64 a15]] (by rfl) rfl rfl (by (try simp only [List.map_toArray, List.map_cons, List.map_nil]); first | done | rfl) ?_
  refine (theirs_at a0 a1 a2 a3 a4 B5 d5 l5 a6 a7 a8 a9 a10 a11 a12 B13 d13 l13 B14 d14 l14 a15 _ HD5.out HD13.out HD14.out HL.out).mono ?_
  rintro e w8 ⟨v8, rfl, ho8, hb8⟩
  rw [← HR.out] at ho8
  obtain ⟨E13, e13, rfl⟩ := Kd.R_slice ho8
  have HO8 := Aside0.mk (Kd.R_reads' ho8)
  have HB8 := Aside0.mk (hb8)
  have hbn8 := Aside0.mk hb8
  clear ho8 hb8 hHeld
  refine ⟨_, rfl, ?_⟩
  refine hK _ _ HB8.out (fun hHeld => ?_)
  clear hK K
  refine norm_ (a' := ?_) ?_ ?_
  rotate_left
  · show Act.put _ (some 43) _ = _
    simp only [Act.put, List.setIfInBounds_toArray, List.set_cons_zero, List.set_cons_succ, i64_w, i32_w]
    rfl
  refine one_ (i := 6) (N := some 45) #[true, true, true, true, true, true, true, false, false, false] rfl rfl (by kernel_rfl) (by decide) (fun K hK => ?_)
  refine goes_ Try.func13 (by kernel_rfl) rfl #[.agg #[.int .i64 a0, .int .i64 a1, .int .i64 a2, .int .u64 a3, .int .i64 a4, .slice A5 l5.length c5, .int .u64 a6, .int .u64 a7, .int .u64 a8, .int .u64 a9, .int .u64 a10, .int .u64 a11, .int .u64 a12, .slice A13 l13.length c13, .slice A14 l14.length c14, .float .f64 a15]] (by rfl) rfl rfl (by (try simp only [List.map_toArray, List.map_cons, List.map_nil]); first | done | rfl) ?_
  refine (theirs_at a0 a1 a2 a3 a4 A5 c5 l5 a6 a7 a8 a9 a10 a11 a12 A13 c13 l13 A14 c14 l14 a15 _ (Kd.C_below (Kd.C_below H5.out BD.out) HB8.out) (Kd.C_below (Kd.C_below H13.out BD.out) HB8.out) (Kd.C_below (Kd.C_below H14.out BD.out) HB8.out) HL.out).mono ?_
  rintro e w9 ⟨v9, rfl, ho9, hb9⟩
  rw [← HR.out] at ho9
  obtain ⟨G13, h13, rfl⟩ := Kd.R_slice ho9
  have HO9 := Aside0.mk (Kd.R_reads' ho9)
  have HB9 := Aside0.mk (below_step HB8.out hb9)
  have hbn9 := Aside0.mk hb9
  clear ho9 hb9 hHeld
  refine ⟨_, rfl, ?_⟩
  refine hK _ _ HB9.out (fun hHeld => ?_)
  clear hK K
  refine norm_ (a' := ?_) ?_ ?_
  rotate_left
  · show Act.put _ (some 45) _ = _
    simp only [Act.put, List.setIfInBounds_toArray, List.set_cons_zero, List.set_cons_succ, i64_w, i32_w]
    rfl
  refine one_ (i := 7) (N := some 46) #[true, true, true, true, true, true, true, true, false, false] rfl rfl (by kernel_rfl) (by decide) (fun K hK => ?_)
  refine goes_ Try.func12 (by kernel_rfl) rfl #[.agg #[.int .i64 a0, .int .i64 a1, .int .i64 a2, .int .u64 a3, .int .i64 a4, .slice B5 l5.length d5, .int .u64 a6, .int .u64 a7, .int .u64 a8, .int .u64 a9, .int .u64 a10, .int .u64 a11, .int .u64 a12, .slice E13 r13.length e13, .slice B14 l14.length d14, .float .f64 a15], .agg #[.int .i64 a0, .int .i64 a1, .int .i64 a2, .int .u64 a3, .int .i64 a4, .slice A5 l5.length c5, .int .u64 a6, .int .u64 a7, .int .u64 a8, .int .u64 a9, .int .u64 a10, .int .u64 a11, .int .u64 a12, .slice G13 r13.length h13, .slice A14 l14.length c14, .float .f64 a15]] (by rfl) rfl rfl (by (try simp only [List.map_toArray, List.map_cons, List.map_nil]); first | done | rfl) ?_
  refine (conventicleref15_Same.calls _ a0 a1 a2 a3 a4 B5 d5 l5 a6 a7 a8 a9 a10 a11 a12 E13 e13 r13 B14 d14 l14 a15 a0 a1 a2 a3 a4 A5 c5 l5 a6 a7 a8 a9 a10 a11 a12 G13 h13 r13 A14 c14 l14 a15 true _ (Kd.C_below HD5.out HB9.out) DC5.out (Kd.C_below HO8.out.2.2 hbn9.out) HO8.out.2.1 (Kd.C_below HD14.out HB9.out) DC14.out (Kd.C_below (Kd.C_below H5.out BD.out) HB9.out) HC5.out HO9.out.2.2 HO9.out.2.1 (Kd.C_below (Kd.C_below H14.out BD.out) HB9.out) HC14.out HS.out).mono ?_
  rintro e w10 ⟨rfl, hb10⟩
  have HB10 := Aside0.mk (below_step HB9.out hb10)
  clear hb10 hHeld
  refine ⟨_, rfl, ?_⟩
  refine hK _ _ HB10.out (fun hHeld => ?_)
  clear hK K
  refine norm_ (a' := ?_) ?_ ?_
  rotate_left
  · show Act.put _ (some 46) _ = _
    simp only [Act.put, List.setIfInBounds_toArray, List.set_cons_zero, List.set_cons_succ, i64_w, i32_w]
    rfl
  refine pure_ (i := 8) (N := some 47) (v := ?_) (a' := ?_) #[true, true, true, true, true, true, true, true, true, false] rfl rfl (by kernel_rfl) (fun _ _ _ h => h) (Or.inl ⟨by rfl, ?_⟩) ?_ ?_
  rotate_left
  · intro w'
    go_simp
    first | done | with_reducible rfl | rfl | (simp [Instr.field, go_sem]; rfl)
  rotate_left
  · simp only [Act.put, List.setIfInBounds_toArray, List.set_cons_zero, List.set_cons_succ, i64_w, i32_w]
    rfl
  refine pure_ (i := 9) (N := some 48) (v := ?_) (a' := ?_) #[true, true, true, true, true, true, true, true, true, true] rfl rfl (by kernel_rfl) (fun _ _ _ h => h) (Or.inl ⟨by rfl, ?_⟩) ?_ ?_
  rotate_left
  · intro w'
    go_simp
    first | done | with_reducible rfl | rfl | (simp [Instr.field, go_sem]; rfl)
  rotate_left
  · simp only [Act.put, List.setIfInBounds_toArray, List.set_cons_zero, List.set_cons_succ, i64_w, i32_w]
    rfl
  refine done_ (by kernel_rfl) ?_
  have BE := Aside0.mk (below_step BD.out HB10.out)
  clear K1d K6d BD HD5 HD13 HD14 HB8 HB9 HB10 hbn8 hbn9 HO8 HO9
  by_cases hm0 : m = 0
  · go_wp2
    go_ret
    exact ⟨rfl, BE.out⟩
  · have kb := fun W => print_bytes (P := Try.prog) 9 48 5 Try.underlying9 Try.underlying48 Try.underlying5 T W
    go_upto_region 12 with (fail)
    have hR := bytes_reads w10 5 T (by have := HZ2.out; omega)
    have hRow : Aside0 (RowB (Lib.bytesWorld w10 5 T) w10.heap.size T.data.toList) := ⟨by
      have hl := data_length T
      refine ⟨fun j hj => ?_, fun j hj => ?_⟩
      · obtain ⟨ad, e, hc⟩ := hR.2.2 (by have := HZ.out; omega)
        have := hc j (by omega)
        injection e with e
        subst e
        rw [add_plain] at this
        rw [this]
        simp [bytesOf, List.getD_eq_getElem?_getD, List.getElem?_eq_getElem hj]
      · have h9 := Lib.bytesWorld_at_new w10 5 T
        have hsz : T.size ≤ (Lib.bytesCells w10 5 T).size := by
          rw [show (Lib.bytesCells w10 5 T).size = T.data.size + (grownCap w10 T.size 0 5 - T.size) by simp [Lib.bytesCells]]
          exact Nat.le_add_right _ _
        simp [World.frozen?, h9]
        omega⟩
    have hB4 := Aside0.mk (bytes_below BE.out BE.out.size 5 T)
    have L0 : Aside0 (w.heap.size ≤ w10.heap.size) := ⟨BE.out.size⟩
    obtain ⟨gb, hgb⟩ : ∃ gb, gb = w10.heap.size := ⟨_, rfl⟩
    rw [← hgb] at hRow L0 ⊢
    obtain ⟨cap, hcap⟩ : ∃ cap, cap = grownCap w10 T.size 0 5 := ⟨_, rfl⟩
    rw [← hcap]
    generalize Lib.bytesWorld w10 5 T = w11 at hRow hB4 ⊢
    clear hR kb hcap hgb BE
    obtain ⟨cu, rfl⟩ := Int.eq_ofNat_of_zero_le HC.out.1
    obtain ⟨mn, rfl⟩ := Int.eq_ofNat_of_zero_le HM.out.1
    obtain ⟨j, hj⟩ : ∃ j, j = cu % T.size := ⟨_, rfl⟩
    have hjT : j < T.size := by rw [hj]; exact Nat.mod_lt _ (by have := HZ.out; omega)
    have hrem : Int.tmod (cu : Int) (T.size : Int) = (j : Int) := by rw [hj]; exact (Int.ofNat_tmod _ _).symm
    have hwc : wrap64 (cu : Int) = (cu : Int) := by have := HC.out; unfold wrap64; omega
    have hne : ¬ (T.size : Int) = 0 := by have := HZ.out; omega
    have hjl : j < T.data.toList.length := by rw [data_length]; exact hjT
    have hcell := hRow.out.1 j hjl
    have hfz := hRow.out.2 j hjl
    obtain ⟨c, hc⟩ : ∃ c, c = (T.data.toList[j]).toNat := ⟨_, rfl⟩
    have hcb : c < 256 := by rw [hc]; exact (T.data.toList[j]).toNat_lt
    have hmb : mn < 256 := by have := HM.out.2; omega
    rw [← hc] at hcell
    have HXB := Aside0.mk (u8_xor_nat c mn hcb hmb)
    have HCC := Aside0.mk hc
    have HJ := Aside0.mk hj
    have hjTi : (j : Int) < (T.size : Int) := by omega
    have HM0 : Aside0 (UInt8.ofNat mn ≠ 0) := ⟨by
      intro h0
      have := congrArg UInt8.toNat h0
      rw [UInt8.toNat_ofNat'] at this
      have h2 : (0 : UInt8).toNat = 0 := rfl
      omega⟩
    clear hj hc hcb
    go_upto_region 13 with (fail)
    rw [HXB.out]
    have hrow2 : Aside0 (RowB (w11.setCell ⟨gb, j, none⟩ (.int .u8 ((c ^^^ mn : Nat) : Int))) gb (spoil T.data.toList j (UInt8.ofNat mn))) := ⟨by
      have hfe : ∀ i (hi : i < (spoil T.data.toList j (UInt8.ofNat mn)).length), ((spoil T.data.toList j (UInt8.ofNat mn))[i]).toNat = if j = i then c ^^^ mn else (T.data.toList[i]'(by rw [spoil_len] at hi; exact hi)).toNat := by
        intro i hi
        have hg : (spoil T.data.toList j (UInt8.ofNat mn))[i] = if j = i then T.data.toList.getD j 0 ^^^ UInt8.ofNat mn else T.data.toList[i]'(by rw [spoil_len] at hi; exact hi) :=
          List.getElem_set (l := T.data.toList) (i := j) (a := T.data.toList.getD j 0 ^^^ UInt8.ofNat mn) (j := i) hi
        rw [hg]
        by_cases e : j = i
        · rw [if_pos e, if_pos e, UInt8.toNat_xor, UInt8.toNat_ofNat', HCC.out, List.getD_eq_getElem?_getD, List.getElem?_eq_getElem hjl, show mn % 256 = mn by omega]
          rfl
        · rw [if_neg e, if_neg e]
      refine ⟨fun i hi => ?_, fun i hi => ?_⟩
      · rw [hfe i hi]
        by_cases e : j = i
        · subst e
          rw [if_pos rfl]
          exact World.cell?_setCell_same' _ _ _ (by rw [hcell]; rfl)
        · rw [if_neg e, World.cell?_setCell_other _ _ _ _ (fun h_ => e (by injection h_))]
          exact hRow.out.1 i (by rw [spoil_len] at hi; exact hi)
      · rw [World.frozen?_setCell]
        exact hRow.out.2 i (by rw [spoil_len] at hi; exact hi)⟩
    have B12 : Aside0 (Below w.heap.size w (w11.setCell ⟨gb, j, none⟩ (.int .u8 ((c ^^^ mn : Nat) : Int)))) := ⟨below_set hB4.out L0.out⟩
    have HQ := Aside0.mk (HX.out j (UInt8.ofNat mn) hjT HM0.out)
    generalize w11.setCell ⟨gb, j, none⟩ (.int .u8 ((c ^^^ mn : Nat) : Int)) = w12 at hrow2 B12 ⊢
    have hlen : (spoil T.data.toList j (UInt8.ofNat mn)).length = T.size := by rw [spoil_len, data_length]
    generalize spoil T.data.toList j (UInt8.ofNat mn) = l at hrow2 HQ hlen
    obtain ⟨S, hS⟩ : ∃ S : ByteArray, S = ⟨l.toArray⟩ := ⟨_, rfl⟩
    rw [← hS] at HQ
    have hcv : (convert 48 9 (.slice (some ⟨gb, 0, none⟩) T.size cap)).run Try.prog w12 = .ok (.string S) w12 := by
      have hrd : ReadsInt w12 .u8 (some ⟨gb, 0, none⟩) T.size (l.map fun c => (c.toNat : Int)) := by
        refine ⟨by rw [List.length_map]; exact hlen, by have := HZ2.out; omega, fun _ => ⟨_, rfl, fun i hi => ?_⟩⟩
        have hi' : i < l.length := by rw [hlen]; exact hi
        rw [add_plain, hrow2.out.1 i hi']
        simp [List.getD_eq_getElem?_getD, List.getElem?_eq_getElem hi']
      have := string_of_reads (c := cap) Try.underlying48 Try.underlying5 Try.underlying9 hrd
      rw [this]
      congr 2
      rw [hS]
      unfold strOfNums
      congr 2
      rw [List.map_map]
      conv => rhs; rw [← List.map_id l]
      apply List.map_congr_left
      intro x _
      simp
    clear hS hlen hrow2 hRow hcell hfz hjl hjT hjTi hrem hwc hne HXB HCC HJ HX HM0 hmb
    go_wp2_with (first
      | (go_at_call 10; refine (letter_Decode.calls S 0 0 0 0 0 [] 0 0 0 0 0 0 0 [] [] 0 20 _ HQ.out).mono ?_; rintro e w13 ⟨v5, v13, v14, rfl, r5, r13_, r14, hb⟩; obtain ⟨F5, f5, rfl⟩ := Kd.R_slice r5; obtain ⟨F13, f13, rfl⟩ := Kd.R_slice r13_; obtain ⟨F14, f14, rfl⟩ := Kd.R_slice r14; have B13_ := Aside0.mk (below_step B12.out hb); clear r5 r13_ r14 hb)
      | ((with_reducible refine gate_dst (N := 12) rfl ?_); refine box_event ?hg (N := 12) ?hd (cs := #[.int .i64 0, .int .i64 0, .int .i64 0, .int .u64 0, .int .i64 0, .slice none 0 0, .int .u64 0, .int .u64 0, .int .u64 0, .int .u64 0, .int .u64 0, .int .u64 0, .int .u64 0, .slice none 0 0, .slice none 0 0, .float .f64 0]) (t := 32) ?hr ?_; (case hd => rfl); (case hg => rfl); (case hr => first | (go_simp; done) | (go_simp; rfl)); intro g12 hg_ w14 hb_ hB_; have K12 := Aside0.mk hb_; have L12 := Aside0.mk (show w.heap.size ≤ g12 by rw [hg_]; exact B13_.out.size); have B14_ := Aside0.mk (below_step B13_.out hB_); clear hg_ hb_ hB_)
      | ((with_reducible refine gate_store (t := 32) (p := 12) rfl ?_); go_loud (refine wpList_store_row rfl 32 (.tmp 12) (.tmp 68) rfl g12 #[.int .i64 0, .int .i64 0, .int .i64 0, .int .u64 0, .int .i64 0, .slice F5 ([] : List S70).length f5, .int .u64 0, .int .u64 0, .int .u64 0, .int .u64 0, .int .u64 0, .int .u64 0, .int .u64 0, .slice F13 ([] : List S53).length f13, .slice F14 ([] : List S77).length f14, .float .f64 0] rfl rfl 32 #[.int .i64 0, .int .i64 0, .int .i64 0, .int .u64 0, .int .i64 0, .slice none 0 0, .int .u64 0, .int .u64 0, .int .u64 0, .int .u64 0, .int .u64 0, .int .u64 0, .int .u64 0, .slice none 0 0, .slice none 0 0, .float .f64 0] K12.out si32 rfl (one_L _ _ _ _ _ _ _ _ _ _ _ _ _ _ _ _ _ _ _ _ _ _) ?_); have B15_ := Aside0.mk (below_setRow B14_.out L12.out #[.int .i64 0, .int .i64 0, .int .i64 0, .int .u64 0, .int .i64 0, .slice F5 ([] : List S70).length f5, .int .u64 0, .int .u64 0, .int .u64 0, .int .u64 0, .int .u64 0, .int .u64 0, .int .u64 0, .slice F13 ([] : List S53).length f13, .slice F14 ([] : List S77).length f14, .float .f64 0]); generalize World.setRow w14 g12 _ = w15 at B15_ ⊢))
    go_ret
    exact ⟨rfl, B15_.out⟩
end Go.Proofs.Ytondgoabnmgcaaa.B
end
section
/- By hand: LetterBack: the ways joined, for the row. -/
namespace Go.Proofs.Ytondgoabnmgcaaa.R
open Go.RowKit Go.Proofs.Ytondgoabnmgcaaa.B Go.Proofs.YtondgoabnmgcaaaW.PrintWords Go.Proofs.YtondgoabnmgcaaaW.PrintLast Go.Proofs.YtondgoabnmgcaaaW.PrintMore
open Go.Proofs.Ytondgoabnmgcaaa.Pure (heavyB u64_wf len_encL sumP_le)
theorem back_row (x : S32) (A5 : Option Addr) (c5 : Nat) (A13 : Option Addr) (c13 : Nat) (A14 : Option Addr) (c14 : Nat) (cut m : Int) (w : World)
    (hr5 : Kd.C k70 w A5 x.f5.length x.f5) (hc5 : x.f5.length ≤ c5) (hr13 : Kd.C k53 w A13 x.f11.length x.f11) (hc13 : x.f11.length ≤ c13) (hr14 : Kd.C k77 w A14 x.f12.length x.f12) (hc14 : x.f12.length ≤ c14)
    (hW : wf32 x) (wc : (Lit.int .u16 cut).wf = true) (wm : (Lit.int .u8 m).wf = true) :
    Calls Try.prog 4 #[.agg #[.int .i64 x.f0, .int .i64 x.f1, .int .i64 x.f2, .int .u64 x.f3, .int .i64 x.f4, .slice A5 x.f5.length c5, .int .u64 x.f6.f0, .int .u64 x.f6.f1, .int .u64 x.f7, .int .u64 x.f8, .int .u64 x.f9.f0, .int .u64 x.f9.f1, .int .u64 x.f10, .slice A13 x.f11.length c13, .slice A14 x.f12.length c14, .float .f64 x.f13], .int .u16 cut, .int .u8 m] w fun e w' => e = .returned (.bool true) ∧ Below w.heap.size w w' := by
  obtain ⟨a0, a1, a2, a3, a4, l5, ⟨a6, a7⟩, a8, a9, ⟨a10, a11⟩, a12, l13, l14, a15⟩ := x
  obtain ⟨_, _, _, y3, _, y5, ⟨y6, y7⟩, y8, y9, ⟨y10, y11⟩, y12, y13, y14, y15⟩ := hW
  dsimp only at *
  have hc : 0 ≤ cut ∧ cut < 65536 := by
    simp [Lit.wf, IntKind.min, IntKind.max, IntKind.signed, IntKind.bits] at wc; omega
  have hm : 0 ≤ m ∧ m < 256 := by
    simp [Lit.wf, IntKind.min, IntKind.max, IntKind.signed, IntKind.bits] at wm; omega
  have hok : okL a0 a1 a2 a3 a4 l5 a6 a7 a8 a9 a10 a11 a12 l13 l14 a15 = true := by
    simp only [okL, Bool.and_eq_true, List.all_eq_true]
    exact ⟨u64_wf y3, u64_wf y6, u64_wf y7, u64_wf y8, u64_wf y9, u64_wf y10, u64_wf y11, u64_wf y12, fun u hu => u64_wf (y5.2 u hu).2.1, fun p hp => ⟨u64_wf (y13.2 p hp).1, u64_wf (y13.2 p hp).2.2.1⟩, fun q hq => ⟨u64_wf (y14.2 q hq).1, u64_wf (y14.2 q hq).2⟩⟩
  cases hh : heavyB l5 l13 l14
  · cases hmay : mayL a0 a1 a2 a4 l5 l13 l14 a15
    · exact back_no a0 a1 a2 a3 a4 A5 c5 l5 a6 a7 a8 a9 a10 a11 a12 A13 c13 l13 A14 c14 l14 a15 cut m w hr5 hc5 hr13 hc13 hr14 hc14 y13.1 hh hmay
    · have hE : letter_Encode.f a0 a1 a2 a3 a4 l5 a6 a7 a8 a9 a10 a11 a12 l13 l14 a15 = some (sealS (strOfNums (encL a0 a1 a2 a3 a4 l5 a6 a7 a8 a9 a10 a11 a12 l13 l14 a15)), 0) := by unfold letter_Encode.f; rw [if_neg (by rw [hmay]; decide), if_pos hok]
      have HF := fine a0 a1 a2 a3 a4 l5 a6 a7 a8 a9 a10 a11 a12 l13 l14 a15 hmay hok
      have hsz : (strOfNums (encL a0 a1 a2 a3 a4 l5 a6 a7 a8 a9 a10 a11 a12 l13 l14 a15)).size ≤ 1000 := by
        rw [strOfNums_size, len_encL]
        have := sumP_le l13 (fun p hp => by have := (HF.u13 p hp).2.2.2; omega)
        have h5 := HF.n5
        have h13 := HF.n13
        have h14 := HF.n14
        omega
      have hd := dec_enc a0 a1 a2 a3 a4 l5 a6 a7 a8 a9 a10 a11 a12 l13 l14 a15 hmay hok y15
      generalize strOfNums (encL a0 a1 a2 a3 a4 l5 a6 a7 a8 a9 a10 a11 a12 l13 l14 a15) = S at hE hsz hd
      have hz : (sealS S).size = S.size + 4 := Go.Proofs.Ytondgoabnmgcaaa.Pure.sealS_size S
      have hO : Go.Proofs.YtondgoabnmgcaaaG.B.guard_Open.f (sealS S) = some (S, 0) := Go.Proofs.YtondgoabnmgcaaaG.Pure.open_seal S (by omega)
      have hD : letter_Decode.f (sealS S) = some (a0, a1, a2, a3, a4, l5, a6, a7, a8, a9, a10, a11, a12, l13, l14, a15, 0) := by
        unfold letter_Decode.f decT
        rw [hO, Option.bind_some, if_pos rfl, if_pos (show S.size < 4611686018427387904 by omega), hd]
        rfl
      refine back_ok a0 a1 a2 a3 a4 A5 c5 l5 a6 a7 a8 a9 a10 a11 a12 A13 c13 l13 A14 c14 l14 a15 cut m w hr5 hc5 hr13 hc13 hr14 hc14 y13.1 hh (sealS S) hE hD (by omega) (by omega) ?_ hc hm
      intro j b hj hb
      have h20 := open_spoilt S (by omega) j (by omega) b hb
      unfold letter_Decode.f decT
      rw [h20, Option.bind_some, if_neg (by decide)]
      rfl
  · exact back_heavy a0 a1 a2 a3 a4 A5 c5 l5 a6 a7 a8 a9 a10 a11 a12 A13 c13 l13 A14 c14 l14 a15 cut m w hr5 hc5 hr13 hc13 hr14 hc14 y13.1 hh
end Go.Proofs.Ytondgoabnmgcaaa.R
end
