/- Texts of this claim, one behind the other (joined by pack.py): Door Decode RestW Theirs Shown LawMayW MayIs RefSt RefDecode Heavy BackP Inv Inv2 RefP. -/
import Derived.Test.YtondgoabnmgcaaaKLetterDecodes17
import Derived.Test.YtondgoabnmgcaaaKLetterDecodes12
import Derived.Tactics2
import Derived.Defers
import Derived.Recover
import Derived.Laws.Pointers
import Derived.Laws.CopyOwn
import Derived.Test.YtondgoabnmgcaaaKLetterDecodes7
import Derived.Test.YtondgoabnmgcaaaKLetterDecodes6
import Derived.Test.YtondgoabnmgcaaaKLetterDecodes16
import Derived.Test.YtondgoabnmgcaaaKLetterDecodes10
import Derived.Test.YtondgoabnmgcaaaKLetterDecodes14
section
/- By hand: where letter.Decode stands, its deferred closure, and its ways out. -/
namespace Go.Proofs.Ytondgoabnmgcaaa.B
open Go.RowKit Go.Proofs.YtondgoabnmgcaaaW.PrintWords Go.Proofs.YtondgoabnmgcaaaW.PrintLast Go.Proofs.YtondgoabnmgcaaaW.PrintMore
open Go.Proofs.YtondgoabnmgcaaaO.B (IsS63)
open Go.Proofs.YtondgoabnmgcaaaO.R (rdv rdv_range rbits)
set_option linter.unusedSimpArgs false
set_option linter.unusedVariables false
abbrev zeroL : Array Value := #[.int .i64 0, .int .i64 0, .int .i64 0, .int .u64 0, .int .i64 0, .slice none 0 0, .int .u64 0, .int .u64 0, .int .u64 0, .int .u64 0, .int .u64 0, .int .u64 0, .int .u64 0, .slice none 0 0, .slice none 0 0, .float .f64 0]
theorem sizeL : (Try.prog.info? 32).map (·.size) = some zeroL.size := by kernel_rfl
theorem oneL : zeroL.all (·.oneCell') = true := by kernel_rfl
theorem catch_idle (p q : Addr) (w : World) :
    CallsD Try.prog 23 #[.pointer (some p), .pointer (some q)] .returning w fun e u' w' => e = .returned (.tuple #[]) ∧ u' = .returning ∧ w' = w := by
  refine callsD_of_wpS Try.func23 rfl fun c₀ cs hu => ?_
  apply wpS_seq
  apply wpS_region
  simp [wpOpsS, go_sem, recoverD, hu, Try.ntmps23, Exit.thenS]
  refine wpS_of_wp ?_
  go_wp2
  cases c₀
  simp_all [bodyPostS, results, Try.results23]
set_option maxRecDepth 100000 in
set_option maxHeartbeats 1000000 in
theorem catch_panic (g2 g3 : Nat) (er : Int) (cs : Array Value) (w : World) (hn : g2 ≠ g3) (h2 : w.heap[g2]? = some (.cells cs 32 (0, 0))) (hsz : cs.size = 16) (h3 : w.heap[g3]? = some (.cells #[.int .i64 0] 33 (0, 0))) :
    CallsD Try.prog 23 #[.pointer (some ⟨g2, 0, none⟩), .pointer (some ⟨g3, 0, none⟩)] (.panicking [{ v := .iface 33 (.int .i64 er), recovered := false }]) w fun e u' w' =>
      e = .returned (.tuple #[]) ∧ u' = .panicking [{ v := .iface 33 (.int .i64 er), recovered := true }] ∧ w' = (w.setRow g2 zeroL).setCell ⟨g3, 0, none⟩ (.int .i64 er) := by
  have hta : (Instr.typeAssert (.iface 33 (.int .i64 er)) 20 33 true).run Try.prog w = .ok (.tuple #[.int .i64 er, .bool true]) w := by
    first | kernel_rfl | rfl
  have K2 := Aside0.mk h2
  have K3 : (w.setRow g2 zeroL).heap[g3]? = some (.cells #[.int .i64 0] 33 (0, 0)) := (setRow_other w g2 g3 zeroL (Ne.symm hn)).trans h3
  have c3 := blk_cell K3 0
  have f3 := blk_frozen K3 0
  have hz : cs.size = (zeroL).size := by rw [hsz]; rfl
  have HZ := Aside0.mk hz
  clear h2 h3 K3 hn hsz hz
  refine callsD_of_wpS Try.func23 rfl fun c₀ cs' hu => ?_
  apply wpS_seq
  apply wpS_region
  simp [wpOpsS, go_sem, recoverD, hu, Try.ntmps23, Exit.thenS]
  refine wpS_of_wp ?_
  simp only [Array.replicate_succ, Array.replicate_zero, List.push_toArray, List.append_toArray, List.nil_append, List.cons_append, List.setIfInBounds_toArray, List.set_cons_zero, List.set_cons_succ]
  go_wp2_with ((with_reducible refine gate_store (t := 32) (p := 0) rfl ?_); go_loud (refine wpList_store_row rfl 32 (.tmp 0) (.tmp 11) rfl g2 zeroL rfl rfl 32 cs K2.out sizeL HZ.out oneL ?_))
  cases c₀
  simp_all [bodyPostS, results, Try.results23]
/-- where Decode stands: the reader, the letter, the error, the box of the reader; the rows of the letter -/
structure De (w0 W : World) (g g2 g3 g4 : Nat) (s : ByteArray) (q : Int) (cs : Array Value) (v5 v13 v14 : Value) (l5 : List S70) (l13 : List S53) (l14 : List S77) : Prop where
  I : IsS63 w0 W g s q
  B : Below w0.heap.size w0 W
  K2 : W.heap[g2]? = some (.cells cs 32 (0, 0))
  K3 : W.heap[g3]? = some (.cells #[.int .i64 0] 33 (0, 0))
  K4 : W.heap[g4]? = some (.cells #[.pointer (some ⟨g, 0, none⟩)] 65 (0, 0))
  n2 : g2 ≠ g
  n3 : g3 ≠ g
  n4 : g4 ≠ g
  n23 : g2 ≠ g3
  n24 : g2 ≠ g4
  l2 : w0.heap.size ≤ g2
  l3 : w0.heap.size ≤ g3
  sz : cs.size = 16
  R5 : Kd.R k70 70 W w0.heap.size (fun _ => True) v5 l5
  R13 : Kd.R k53 53 W w0.heap.size (fun _ => True) v13 l13
  R14 : Kd.R k77 77 W w0.heap.size (fun _ => True) v14 l14
section
variable {w0 W : World} {g g2 g3 g4 : Nat} {s : ByteArray} {q : Int} {cs : Array Value} {v5 v13 v14 : Value} {l5 : List S70} {l13 : List S53} {l14 : List S77}
theorem De.c2 (S : De w0 W g g2 g3 g4 s q cs v5 v13 v14 l5 l13 l14) (j : Nat) : W.cell? ⟨g2, j, none⟩ = cs[j]? := blk_cell S.K2 j
theorem De.f2 (S : De w0 W g g2 g3 g4 s q cs v5 v13 v14 l5 l13 l14) (j : Nat) : W.frozen? ⟨g2, j, none⟩ = false := blk_frozen S.K2 j
theorem De.call {W' : World} {q' : Int} (S : De w0 W g g2 g3 g4 s q cs v5 v13 v14 l5 l13 l14) (hI : IsS63 w0 W' g s q') (hB : Below w0.heap.size w0 W') (hK : KeepBut W W' g none) : De w0 W' g g2 g3 g4 s q' cs v5 v13 v14 l5 l13 l14 :=
  ⟨hI, hB, hK.blk S.K2 S.n2 (by simp), hK.blk S.K3 S.n3 (by simp), hK.blk S.K4 S.n4 (by simp), S.n2, S.n3, S.n4, S.n23, S.n24, S.l2, S.l3, S.sz,
    Kd.R_mono (Kd.R_keep (Kd.R_types S.R5 S.I.1 (by decide)) hK (fun _ h => h.2)) (fun _ _ => trivial), Kd.R_mono (Kd.R_keep (Kd.R_types S.R13 S.I.1 (by decide)) hK (fun _ h => h.2)) (fun _ _ => trivial), Kd.R_mono (Kd.R_keep (Kd.R_types S.R14 S.I.1 (by decide)) hK (fun _ h => h.2)) (fun _ _ => trivial)⟩
theorem De.put (S : De w0 W g g2 g3 g4 s q cs v5 v13 v14 l5 l13 l14) (j : Nat) (v : Value) : De w0 (W.setCell ⟨g2, j, none⟩ v) g g2 g3 g4 s q (cs.setIfInBounds j v) v5 v13 v14 l5 l13 l14 :=
  ⟨S.I.far (Ne.symm S.n2) v, below_set S.B S.l2, blk_put S.K2 j v rfl, blk_far (p := ⟨g2, j, none⟩) S.K3 (Ne.symm S.n23) v, blk_far (p := ⟨g2, j, none⟩) S.K4 (Ne.symm S.n24) v, S.n2, S.n3, S.n4, S.n23, S.n24, S.l2, S.l3, by rw [Array.size_setIfInBounds]; exact S.sz,
    Kd.R_mono (Kd.R_far (p := ⟨g2, j, none⟩) (Kd.R_types S.R5 S.K2 (by decide)) (fun _ h => h.2) v) (fun _ _ => trivial), Kd.R_mono (Kd.R_far (p := ⟨g2, j, none⟩) (Kd.R_types S.R13 S.K2 (by decide)) (fun _ h => h.2) v) (fun _ _ => trivial), Kd.R_mono (Kd.R_far (p := ⟨g2, j, none⟩) (Kd.R_types S.R14 S.K2 (by decide)) (fun _ h => h.2) v) (fun _ _ => trivial)⟩
theorem De.row5 (S : De w0 W g g2 g3 g4 s q cs v5 v13 v14 l5 l13 l14) {v : Value} {l : List S70} (h : Kd.R k70 70 W w0.heap.size (fun _ => True) v l) : De w0 W g g2 g3 g4 s q cs v v13 v14 l l13 l14 := ⟨S.I, S.B, S.K2, S.K3, S.K4, S.n2, S.n3, S.n4, S.n23, S.n24, S.l2, S.l3, S.sz, h, S.R13, S.R14⟩
theorem De.row13 (S : De w0 W g g2 g3 g4 s q cs v5 v13 v14 l5 l13 l14) {v : Value} {l : List S53} (h : Kd.R k53 53 W w0.heap.size (fun _ => True) v l) : De w0 W g g2 g3 g4 s q cs v5 v v14 l5 l l14 := ⟨S.I, S.B, S.K2, S.K3, S.K4, S.n2, S.n3, S.n4, S.n23, S.n24, S.l2, S.l3, S.sz, S.R5, h, S.R14⟩
theorem De.row14 (S : De w0 W g g2 g3 g4 s q cs v5 v13 v14 l5 l13 l14) {v : Value} {l : List S77} (h : Kd.R k77 77 W w0.heap.size (fun _ => True) v l) : De w0 W g g2 g3 g4 s q cs v5 v13 v l5 l13 l := ⟨S.I, S.B, S.K2, S.K3, S.K4, S.n2, S.n3, S.n4, S.n23, S.n24, S.l2, S.l3, S.sz, S.R5, S.R13, h⟩
end
/-- a letter, as Decode hands it back -/
def cellsL (x : S32) (v5 v13 v14 : Value) : Array Value := #[.int .i64 x.f0, .int .i64 x.f1, .int .i64 x.f2, .int .u64 x.f3, .int .i64 x.f4, v5, .int .u64 x.f6.f0, .int .u64 x.f6.f1, .int .u64 x.f7, .int .u64 x.f8, .int .u64 x.f9.f0, .int .u64 x.f9.f1, .int .u64 x.f10, v13, v14, .float .f64 x.f13]
def DPost (D : Except Int S32) (w0 : World) (e : Ending) (w' : World) : Prop :=
  Below w0.heap.size w0 w' ∧ match D with
  | .error er => e = .returned (.tuple #[.agg zeroL, .int .i64 er])
  | .ok x => ∃ v5 v13 v14, e = .returned (.tuple #[.agg (cellsL x v5 v13 v14), .int .i64 0]) ∧ Kd.R k70 70 w' w0.heap.size (fun _ => True) v5 x.f5 ∧ Kd.R k53 53 w' w0.heap.size (fun _ => True) v13 x.f11 ∧ Kd.R k77 77 w' w0.heap.size (fun _ => True) v14 x.f12
theorem results_dc {P : Program} {fn : Func} {p u : Tmp} {ty ty' : TypeId} {k : IntKind} {d : TypeDesc} (h : fn.results = #[.cell p ty, .cell u ty']) (tmps : Array Value) (w : World) (g g' : Nat) (cs : Array Value) (fr : Nat × Nat) (v' : Value)
    (hp : tmps.getD p undef = .pointer (some ⟨g, 0, none⟩)) (hq : tmps.getD u undef = .pointer (some ⟨g', 0, none⟩)) (hg : w.heap[g]? = some (.cells cs ty fr)) (hc' : w.cell? ⟨g', 0, none⟩ = some v')
    (hu : P.underlying ty = some d) (hd : (match d with | .struct _ | .array _ _ => true | _ => false) = true) (hi : (P.info? ty).map (·.size) = some cs.size) (hu' : P.underlying ty' = some (.int k)) :
    (results fn tmps).run P w = .ok (.tuple #[.agg cs, v']) w := by
  have hp' : tmps[p]?.getD undef = .pointer (some ⟨g, 0, none⟩) := by simpa using hp
  have hq' : tmps[u]?.getD undef = .pointer (some ⟨g', 0, none⟩) := by simpa using hq
  have h1 := run_loadVar_row (P := P) w g ty ty cs fr d hg hu hd hi
  have h2 : (loadVar ty' ⟨g', 0, none⟩).run P w = .ok v' w := by simp [loadVar, isAgg, run_underlying hu', hc']
  simp [results, h, hp', hq', asAddr, h1, h2]
/-- the way out behind a panic with an error, wherever -/
theorem door_bad (w0 W : World) (g2 g3 : Nat) (cs : Array Value) (D : Except Int S32) (er : Int) (T : Array Value) (hn : g2 ≠ g3) (hsz : cs.size = 16) (h2 : W.heap[g2]? = some (.cells cs 32 (0, 0))) (h3 : W.heap[g3]? = some (.cells #[.int .i64 0] 33 (0, 0)))
    (l2 : w0.heap.size ≤ g2) (l3 : w0.heap.size ≤ g3) (hB : Below w0.heap.size w0 W) (hD : D = .error er) (t2 : T.getD 2 undef = .pointer (some ⟨g2, 0, none⟩)) (t3 : T.getD 3 undef = .pointer (some ⟨g3, 0, none⟩)) :
    bodyPostD Try.prog Try.f10 (DPost D w0) (Exit.panic [{ v := .iface 33 (.int .i64 er), recovered := false }])
      { tmps := T, defers := [{ target := .fn (.func 23) #[.pointer (some ⟨g2, 0, none⟩), .pointer (some ⟨g3, 0, none⟩)], args := #[] }] } W := by
  refine leaves_cons (f := 23) (args := #[.pointer (some ⟨g2, 0, none⟩), .pointer (some ⟨g3, 0, none⟩)]) (by simp) (by simp [go_sem]) ?_
  refine (catch_panic g2 g3 er cs W hn h2 hsz h3).mono ?_
  rintro e u' w'' ⟨rfl, rfl, rfl⟩
  have R2 := setRow_heap W g2 cs zeroL 32 (0, 0) h2
  have R3 := (setRow_other W g2 g3 zeroL (Ne.symm hn)).trans h3
  have P2 := blk_far (p := ⟨g3, 0, none⟩) R2 hn (.int .i64 er)
  have P3 := blk_put R3 0 (.int .i64 er) rfl
  refine ⟨_, results_dc (by kernel_rfl) _ _ g2 g3 zeroL (0, 0) (.int .i64 er) t2 t3 P2 (blk_cell P3 0) Try.underlying32 rfl sizeL Try.underlying33, ?_⟩
  subst hD
  exact ⟨below_set (below_setRow hB l2 zeroL) l3, rfl⟩
/-- the way out where all went well -/
theorem door_ok (w0 W : World) (g2 g3 : Nat) (x : S32) (v5 v13 v14 : Value) (D : Except Int S32) (T : Array Value) (h2 : W.heap[g2]? = some (.cells (cellsL x v5 v13 v14) 32 (0, 0))) (h3 : W.heap[g3]? = some (.cells #[.int .i64 0] 33 (0, 0)))
    (hB : Below w0.heap.size w0 W) (hD : D = .ok x) (r5 : Kd.R k70 70 W w0.heap.size (fun _ => True) v5 x.f5) (r13 : Kd.R k53 53 W w0.heap.size (fun _ => True) v13 x.f11) (r14 : Kd.R k77 77 W w0.heap.size (fun _ => True) v14 x.f12)
    (t2 : T.getD 2 undef = .pointer (some ⟨g2, 0, none⟩)) (t3 : T.getD 3 undef = .pointer (some ⟨g3, 0, none⟩)) :
    bodyPostD Try.prog Try.f10 (DPost D w0) Exit.ret
      { tmps := T, defers := [{ target := .fn (.func 23) #[.pointer (some ⟨g2, 0, none⟩), .pointer (some ⟨g3, 0, none⟩)], args := #[] }] } W := by
  refine leaves_cons (f := 23) (args := #[.pointer (some ⟨g2, 0, none⟩), .pointer (some ⟨g3, 0, none⟩)]) (by simp) (by simp [go_sem]) ?_
  refine (catch_idle ⟨g2, 0, none⟩ ⟨g3, 0, none⟩ W).mono ?_
  rintro e u' w'' ⟨rfl, rfl, rfl⟩
  refine ⟨_, results_dc (by kernel_rfl) _ _ g2 g3 (cellsL x v5 v13 v14) (0, 0) (.int .i64 0) t2 t3 h2 (blk_cell h3 0) Try.underlying32 rfl (by kernel_rfl) Try.underlying33, ?_⟩
  subst hD
  exact ⟨hB, v5, v13, v14, rfl, r5, r13, r14⟩
end Go.Proofs.Ytondgoabnmgcaaa.B
end
section
/- By hand: letter.Decode (printed by decode.py). -/
namespace Go.Proofs.Ytondgoabnmgcaaa.B
open Go.RowKit Go.Proofs.YtondgoabnmgcaaaW.PrintWords Go.Proofs.YtondgoabnmgcaaaW.PrintLast Go.Proofs.YtondgoabnmgcaaaW.PrintMore
open Go.Proofs.YtondgoabnmgcaaaO.B (IsS63)
open Go.Proofs.YtondgoabnmgcaaaO.R (rdv rdv_range rbits Ours real_ours num_ok num_short)
set_option linter.unusedSimpArgs false
set_option linter.unusedVariables false
/-! what bytes are which letter, step by step -/
def loadF (s : ByteArray) (p : Nat) : Nat := (rbits (rdv s p 8).toNat).toNat
def letterOf (s : ByteArray) (l5 : List S70) (q : Nat) (l13 : List S53) (l14 : List S77) (q3 : Nat) : S32 :=
  ⟨rdv s 0 1, rdv s 1 1, rdv s 2 1, rdv s 3 8, rdv s 11 1, l5, ⟨rdv s q 8, rdv s (q + 8) 8⟩, rdv s (q + 16) 8, rdv s (q + 24) 8, ⟨rdv s (q + 32) 8, rdv s (q + 32 + 8) 8⟩, rdv s (q + 48) 8, l13, l14, loadF s q3⟩
def d16 (s : ByteArray) (l5 : List S70) (q : Nat) (l13 : List S53) (l14 : List S77) (q3 : Nat) : Except Int S32 :=
  if mayL (rdv s 0 1) (rdv s 1 1) (rdv s 2 1) (rdv s 11 1) l5 l13 l14 (loadF s q3) = false then .error 1 else .ok (letterOf s l5 q l13 l14 q3)
def d15 (s : ByteArray) (l5 : List S70) (q : Nat) (l13 : List S53) (l14 : List S77) (q3 : Nat) : Except Int S32 := if rdv s 0 1 < 1 ∨ 14 < rdv s 0 1 then .error 150 else d16 s l5 q l13 l14 q3
def d14 (s : ByteArray) (l5 : List S70) (q : Nat) (l13 : List S53) (l14 : List S77) (q3 : Nat) : Except Int S32 := if q3 + 8 < s.size then .error 11 else d15 s l5 q l13 l14 q3
def d13 (s : ByteArray) (l5 : List S70) (q : Nat) (l13 : List S53) (l14 : List S77) (q3 : Nat) : Except Int S32 := if s.size < q3 + 8 then .error 10 else d14 s l5 q l13 l14 q3
def d12 (s : ByteArray) (l5 : List S70) (q : Nat) (l13 : List S53) (q2 : Nat) : Except Int S32 := match listI s (itX s) 16 q2 with
  | .error e => .error e
  | .ok (l14, q3) => d13 s l5 q l13 l14 q3
def d11 (s : ByteArray) (l5 : List S70) (q : Nat) : Except Int S32 := match listI s (itP s) 6 (q + 56) with
  | .error e => .error e
  | .ok (l13, q2) => d12 s l5 q l13 q2
def d10 (s : ByteArray) (l5 : List S70) (q : Nat) : Except Int S32 := if s.size < q + 56 then .error 10 else d11 s l5 q
def d9 (s : ByteArray) (l5 : List S70) (q : Nat) : Except Int S32 := if s.size < q + 48 then .error 10 else d10 s l5 q
def d8 (s : ByteArray) (l5 : List S70) (q : Nat) : Except Int S32 := if s.size < q + 32 then .error 10 else d9 s l5 q
def d7 (s : ByteArray) (l5 : List S70) (q : Nat) : Except Int S32 := if s.size < q + 24 then .error 10 else d8 s l5 q
def d6 (s : ByteArray) (l5 : List S70) (q : Nat) : Except Int S32 := if s.size < q + 16 then .error 10 else d7 s l5 q
def d5 (s : ByteArray) : Except Int S32 := match listI s (itU s) 8 12 with
  | .error e => .error e
  | .ok (l5, q) => d6 s l5 q
def d4 (s : ByteArray) : Except Int S32 := if s.size < 12 then .error 10 else d5 s
def d3 (s : ByteArray) : Except Int S32 := if s.size < 11 then .error 10 else d4 s
def d2 (s : ByteArray) : Except Int S32 := if s.size < 3 then .error 10 else d3 s
def d1 (s : ByteArray) : Except Int S32 := if s.size < 2 then .error 10 else d2 s
def decP (s : ByteArray) : Except Int S32 := if s.size < 1 then .error 10 else d1 s
theorem except_or {ε α : Type} (x : Except ε α) : (∃ e, x = .error e) ∨ ∃ a, x = .ok a := by
  cases x with
  | error e => exact .inl ⟨e, rfl⟩
  | ok a => exact .inr ⟨a, rfl⟩
theorem view_bad (w0 w : World) (g : Nat) (s : ByteArray) (p : Nat) (hs : s.size < 4611686018427387904) (hp : p ≤ s.size) (h : s.size < p + 16) (hI : IsS63 w0 w g s p) (hB : Below w0.heap.size w0 w) :
    Calls Try.prog 31 #[.agg #[.pointer (some ⟨g, 0, none⟩)]] w fun e w' => e = bad 10 ∧ Below w0.heap.size w0 w' ∧ KeepBut w w' g none := by
  by_cases h1 : s.size < p + 8
  · exact view_bad0 w0 w g s p hs (by omega) h1 hI hB
  · exact view_bad1 w0 w g s p hs (by omega) h hI hB
theorem de_start {w w4 : World} {g g2 g3 g4 : Nat} {s : ByteArray} (I : IsS63 w w4 g s 0) (B : Below w.heap.size w w4) (K2 : w4.heap[g2]? = some (.cells zeroL 32 (0, 0))) (K3 : w4.heap[g3]? = some (.cells #[.int .i64 0] 33 (0, 0)))
    (K4 : w4.heap[g4]? = some (.cells #[.pointer none] 65 (0, 0))) (l2 : w.heap.size ≤ g2) (l3 : w.heap.size ≤ g3) (l4 : w.heap.size ≤ g4) (n23 : g2 ≠ g3) (n24 : g2 ≠ g4) (n34 : g3 ≠ g4) (n2 : g2 ≠ g) (n3 : g3 ≠ g) (n4 : g4 ≠ g) :
    De w (w4.setCell ⟨g4, 0, none⟩ (.pointer (some ⟨g, 0, none⟩))) g g2 g3 g4 s 0 zeroL (.slice none 0 0) (.slice none 0 0) (.slice none 0 0) [] [] [] :=
  ⟨I.far (Ne.symm n4) _, below_set B l4, blk_far (p := ⟨g4, 0, none⟩) K2 n24 _, blk_far (p := ⟨g4, 0, none⟩) K3 n34 _, blk_put K4 0 _ rfl, n2, n3, n4, n23, n24, l2, l3, rfl, Kd.R_nil _ _ _ _ _, Kd.R_nil _ _ _ _ _, Kd.R_nil _ _ _ _ _⟩
theorem real37_ok (w0 w : World) (g : Nat) (s : ByteArray) (p : Nat) (hs : s.size < 4611686018427387904) (h : p + 8 ≤ s.size) (hI : IsS63 w0 w g s p) (hB : Below w0.heap.size w0 w) :
    Calls Try.prog 37 #[.pointer (some ⟨g, 0, none⟩)] w fun e w' => e = .returned (.tuple #[.float .f64 (loadF s p), .int .i64 0]) ∧ IsS63 w0 w' g s ((p + 8 : Nat) : Int) ∧ Below w0.heap.size w0 w' ∧ KeepBut w w' g none := by
  have hn := num_ok s p 8 (by omega) (by omega) hs h
  have := real_ours w0 s p _ _ 0 10 hn g w hI hB
  exact this
theorem real37_bad (w0 w : World) (g : Nat) (s : ByteArray) (p : Nat) (hp : p ≤ s.size) (h : s.size < p + 8) (hI : IsS63 w0 w g s p) (hB : Below w0.heap.size w0 w) :
    Calls Try.prog 37 #[.pointer (some ⟨g, 0, none⟩)] w fun e w' => ∃ x, e = .returned (.tuple #[.float .f64 x, .int .i64 10]) ∧ Below w0.heap.size w0 w' ∧ KeepBut w w' g none := by
  have hn := num_short s p 8 (by omega) (by omega) hp h
  have := real_ours w0 s p _ _ 10 10 hn g w hI hB
  exact this.mono (fun e w' hh => ⟨_, hh.1, hh.2.2.1, hh.2.2.2⟩)
theorem end_more (w0 w : World) (g : Nat) (s : ByteArray) (p : Nat) (hs : s.size < 4611686018427387904) (h : p < s.size) (hI : IsS63 w0 w g s p) (hB : Below w0.heap.size w0 w) :
    Calls Try.prog 38 #[.pointer (some ⟨g, 0, none⟩)] w fun e w' => e = .returned (.int .i64 11) ∧ IsS63 w0 w' g s p ∧ Below w0.heap.size w0 w' ∧ KeepBut w w' g none := by
  refine Go.Proofs.YtondgoabnmgcaaaO.B.octet_Reader_End.calls g s p 11 s p w0 w hI hB ?_
  unfold Go.Proofs.YtondgoabnmgcaaaO.B.octet_Reader_End.f Go.Proofs.YtondgoabnmgcaaaO.B.octet_Reader_Left.f
  have : wrap64 ((s.size : Int) - p) = (s.size : Int) - p := by unfold wrap64; omega
  rw [this, Option.bind_some]
  exact if_pos (by show (s.size : Int) - p > 0; omega)
theorem end_done (w0 w : World) (g : Nat) (s : ByteArray) (p : Nat) (hs : s.size < 4611686018427387904) (h : p = s.size) (hI : IsS63 w0 w g s p) (hB : Below w0.heap.size w0 w) :
    Calls Try.prog 38 #[.pointer (some ⟨g, 0, none⟩)] w fun e w' => e = .returned (.int .i64 0) ∧ IsS63 w0 w' g s p ∧ Below w0.heap.size w0 w' ∧ KeepBut w w' g none := by
  refine Go.Proofs.YtondgoabnmgcaaaO.B.octet_Reader_End.calls g s p 0 s p w0 w hI hB ?_
  unfold Go.Proofs.YtondgoabnmgcaaaO.B.octet_Reader_End.f Go.Proofs.YtondgoabnmgcaaaO.B.octet_Reader_Left.f
  have : wrap64 ((s.size : Int) - p) = (s.size : Int) - p := by unfold wrap64; omega
  rw [this, Option.bind_some]
  exact if_neg (by show ¬ (s.size : Int) - p > 0; omega)
theorem row_step {w : World} {g : Nat} {cs : Array Value} {v : Value} {α : Type} {d : Kd α} {e base : Nat} {l : List α} (h : Kd.R d e w base (fun _ => True) v l) (hb : w.heap[g]? = some (.cells cs 32 (0, 0))) (ht : ∀ q, q ∈ e :: d.E → q ≠ 32) (cs' : Array Value) : Kd.R d e (w.setRow g cs') base (fun _ => True) v l :=
  Kd.R_mono (Kd.R_step (Kd.R_types h hb ht) (fun k hk _ => setRow_other w g k cs' hk.2)) (fun _ _ => trivial)
theorem De.below {w0 W W' : World} {g g2 g3 g4 : Nat} {s : ByteArray} {q : Int} {cs : Array Value} {v5 v13 v14 : Value} {l5 : List S70} {l13 : List S53} {l14 : List S77} (S : De w0 W g g2 g3 g4 s q cs v5 v13 v14 l5 l13 l14) (hb : Below W.heap.size W W') : De w0 W' g g2 g3 g4 s q cs v5 v13 v14 l5 l13 l14 :=
  S.call ⟨blk_below S.I.1 hb, S.I.2⟩ (below_step S.B hb) (KeepBut.of_below hb g none)
theorem run_store_float (P : Program) (w : World) (a : Addr) (m : Mode) (k : FloatKind) (n : Nat) : (store a (.float k n) m).run P w = stored P w a (.float k n) m := run_store P w a _ m rfl
attribute [local go_sem] run_store_float
theorem one_L (a0 a1 a2 a3 a4 : Int) (A5 : Option Addr) (n5 c5 : Nat) (a6 a7 a8 a9 a10 a11 a12 : Int) (A13 : Option Addr) (n13 c13 : Nat) (A14 : Option Addr) (n14 c14 : Nat) (a15 : Nat) :
    (#[.int .i64 a0, .int .i64 a1, .int .i64 a2, .int .u64 a3, .int .i64 a4, .slice A5 n5 c5, .int .u64 a6, .int .u64 a7, .int .u64 a8, .int .u64 a9, .int .u64 a10, .int .u64 a11, .int .u64 a12, .slice A13 n13 c13, .slice A14 n14 c14, .float .f64 a15] : Array Value).all (·.oneCell') = true := by kernel_rfl
set_option maxRecDepth 100000 in
set_option maxHeartbeats 1000000 in
theorem decode_shut (w : World) (t s : ByteArray) (er : Int) (hO : Go.Proofs.YtondgoabnmgcaaaG.B.guard_Open.f t = some (s, er)) (he : ¬ er = 0) : Calls Try.prog 10 #[.string t] w (DPost (.error er) w) := by
  have hmf : ∀ (fn : Fn) (first cap : Array Value) (w : World), (Instr.makeFunc fn first cap).run Try.prog w = .ok (.func fn first cap) w := fun _ _ _ _ => rfl
  have HO := Aside0.mk hO
  have size65 := size65
  have HE := Aside0.mk he
  clear hO he
  go_enter_defers Try.func10, Try.ntmps10
  go_wp2_with (first
    | ((with_reducible refine gate_dst (N := 2) rfl ?_); refine box_event ?hg (N := 2) ?hd (cs := #[.int .i64 0, .int .i64 0, .int .i64 0, .int .u64 0, .int .i64 0, .slice none 0 0, .int .u64 0, .int .u64 0, .int .u64 0, .int .u64 0, .int .u64 0, .int .u64 0, .int .u64 0, .slice none 0 0, .slice none 0 0, .float .f64 0]) (t := 32) ?hr ?_; (case hd => rfl); (case hg => rfl); (case hr => first | (go_simp; done) | (go_simp; rfl)); intro g2 hg_ w1 hb_ hB_; have K2 := Aside0.mk hb_; have B1 := Aside0.mk hB_; have L2 := Aside0.mk (Nat.le_of_eq hg_.symm); clear hg_ hb_ hB_)
    | ((with_reducible refine gate_dst (N := 3) rfl ?_); refine box_event ?hg (N := 3) ?hd (cs := #[.int .i64 0]) (t := 33) ?hr ?_; (case hd => rfl); (case hg => rfl); (case hr => first | (go_simp; done) | (go_simp; rfl)); intro g3 hg_ w2 hb_ hB_; have K3 := Aside0.mk hb_; have K2b := Aside0.mk (blk_below K2.out hB_); have L3 := Aside0.mk (show w.heap.size ≤ g3 by have := B1.out.size; omega); have N23 := Aside0.mk (show g2 ≠ g3 by have := blk_lt K2.out; omega); have B2 := Aside0.mk (below_step B1.out hB_); clear hg_ hb_ hB_ K2 B1)
    | (go_at_call 26; refine (Go.Proofs.YtondgoabnmgcaaaG.B.guard_Open.calls t s er _ HO.out).mono ?_; rintro e w3 ⟨rfl, hb⟩; have K2c := Aside0.mk (blk_below K2b.out hb); have K3c := Aside0.mk (blk_below K3.out hb); have B3 := Aside0.mk (below_step B2.out hb); clear hb K2b K3 B2)
    | (go_at_call 25; refine (must_str_bad s er HE.out _).mono ?_; rintro e w4 ⟨rfl, rfl⟩))
  exact door_bad w _ g2 g3 zeroL (.error er) er _ N23.out rfl K2c.out K3c.out L2.out L3.out B3.out rfl rfl rfl

set_option maxRecDepth 100000 in
set_option maxHeartbeats 4000000 in
theorem decode_walk (w : World) (t s : ByteArray) (hO : Go.Proofs.YtondgoabnmgcaaaG.B.guard_Open.f t = some (s, 0)) (hs : s.size < 4611686018427387904) : Calls Try.prog 10 #[.string t] w (DPost (decP s) w) := by
  have hmf : ∀ (fn : Fn) (first cap : Array Value) (w : World), (Instr.makeFunc fn first cap).run Try.prog w = .ok (.func fn first cap) w := fun _ _ _ _ => rfl
  have HO := Aside0.mk hO
  have size65 := size65
  have HS := Aside0.mk hs
  obtain ⟨D, hD⟩ : ∃ D, D = decP s := ⟨_, rfl⟩
  rw [← hD]
  have HD := Aside0.mk hD
  clear hD
  have HQ : Aside0 (0 ≤ s.size) := ⟨Nat.zero_le _⟩
  clear hO hs
  go_enter_defers Try.func10, Try.ntmps10
  go_wp2_with (first
    | ((with_reducible refine gate_dst (N := 2) rfl ?_); refine box_event ?hg (N := 2) ?hd (cs := #[.int .i64 0, .int .i64 0, .int .i64 0, .int .u64 0, .int .i64 0, .slice none 0 0, .int .u64 0, .int .u64 0, .int .u64 0, .int .u64 0, .int .u64 0, .int .u64 0, .int .u64 0, .slice none 0 0, .slice none 0 0, .float .f64 0]) (t := 32) ?hr ?_; (case hd => rfl); (case hg => rfl); (case hr => first | (go_simp; done) | (go_simp; rfl)); intro g2 hg_ w1 hb_ hB_; have K2 := Aside0.mk hb_; have B1 := Aside0.mk hB_; have L2 := Aside0.mk (Nat.le_of_eq hg_.symm); clear hg_ hb_ hB_)
    | ((with_reducible refine gate_dst (N := 3) rfl ?_); refine box_event ?hg (N := 3) ?hd (cs := #[.int .i64 0]) (t := 33) ?hr ?_; (case hd => rfl); (case hg => rfl); (case hr => first | (go_simp; done) | (go_simp; rfl)); intro g3 hg_ w2 hb_ hB_; have K3 := Aside0.mk hb_; have K2b := Aside0.mk (blk_below K2.out hB_); have L3 := Aside0.mk (show w.heap.size ≤ g3 by have := B1.out.size; omega); have N23 := Aside0.mk (show g2 ≠ g3 by have := blk_lt K2.out; omega); have B2 := Aside0.mk (below_step B1.out hB_); clear hg_ hb_ hB_ K2 B1)
    | (go_at_call 26; refine (Go.Proofs.YtondgoabnmgcaaaG.B.guard_Open.calls t s 0 _ HO.out).mono ?_; rintro e w3 ⟨rfl, hb⟩; have K2c := Aside0.mk (blk_below K2b.out hb); have K3c := Aside0.mk (blk_below K3.out hb); have B3 := Aside0.mk (below_step B2.out hb); clear hb K2b K3 B2)
    | (go_at_call 25; refine (must_str_ok s _).mono ?_; rintro e w4 ⟨rfl, rfl⟩)
    | (go_at_call 24; refine (Go.Proofs.YtondgoabnmgcaaaO.B.octet_New.calls s s 0 w _ B3.out rfl).mono ?_; rintro e w5 ⟨g, rfl, hi, hb, hb2⟩; have I5 := Aside0.mk hi; have K2d := Aside0.mk (blk_below K2c.out hb2); have K3d := Aside0.mk (blk_below K3c.out hb2); have N2 := Aside0.mk (show g2 ≠ g from fun e => by subst e; have := K2d.out.symm.trans hi.1; injection this with this; injection this with _ this; exact absurd this (by decide)); have N3 := Aside0.mk (show g3 ≠ g from fun e => by subst e; have := K3d.out.symm.trans hi.1; injection this with this; injection this with _ this; exact absurd this (by decide)); have B5 := Aside0.mk hb; clear hi hb hb2 K2c K3c B3)
    | ((with_reducible refine gate_dst (N := 4) rfl ?_); refine box_event ?hg (N := 4) ?hd (cs := #[.pointer none]) (t := 65) ?hr ?_; (case hd => rfl); (case hg => rfl); (case hr => first | (go_simp; done) | (go_simp; rfl)); intro g4 hg_ w6 hb_ hB_; have I6 := Aside0.mk (show IsS63 w w6 g s 0 from ⟨blk_below I5.out.1 hB_, I5.out.2⟩); have B6 := Aside0.mk (below_step B5.out hB_); have K2e := Aside0.mk (blk_below K2d.out hB_); have K3e := Aside0.mk (blk_below K3d.out hB_); have N4 := Aside0.mk (show g2 ≠ g4 ∧ g3 ≠ g4 ∧ g4 ≠ g ∧ w.heap.size ≤ g4 from ⟨by have := blk_lt K2d.out; omega, by have := blk_lt K3d.out; omega, by have := blk_lt I5.out.1; omega, by have := B5.out.size; omega⟩); have z := blk_cell hb_ 0; have zf := blk_frozen hb_ 0; have S0 := Aside0.mk (de_start I6.out B6.out K2e.out K3e.out hb_ L2.out L3.out N4.out.2.2.2 N23.out N4.out.1 N4.out.2.1 N2.out N3.out N4.out.2.2.1); clear hg_ hb_ hB_ I5 B5 K2d K3d)
    | (refine wpList_load_row rfl 65 (.tmp 4) rfl g4 rfl 65 #[.pointer (some ⟨g, 0, none⟩)] (0, 0) _ (S0.out).K4 Try.underlying65 rfl size65 ?_; have T0 : Aside0 (De w _ g g2 g3 g4 s _ #[.int .i64 0, .int .i64 0, .int .i64 0, .int .u64 0, .int .i64 0, .slice none 0 0, .int .u64 0, .int .u64 0, .int .u64 0, .int .u64 0, .int .u64 0, .int .u64 0, .int .u64 0, .slice none 0 0, .slice none 0 0, .float .f64 0] _ _ _ _ _ _) := ⟨S0.out⟩; generalize World.setCell _ _ _ = wa0 at T0 ⊢; (try clear z); (try clear zf); clear S0)
    | (go_at_call 27; refine Classical.byCases (p := s.size < 1) (fun hN => by (refine (small_bad w _ g s 0 (by have := HQ.out; omega) (by omega) T0.out.I T0.out.B).mono ?_; rintro e w' ⟨rfl, hb, hk⟩; exact door_bad w _ g2 g3 _ D 10 _ N23.out T0.out.sz (hk.blk T0.out.K2 T0.out.n2 (by simp)) (hk.blk T0.out.K3 T0.out.n3 (by simp)) L2.out L3.out hb (by rw [HD.out]; exact if_pos hN) rfl rfl)) (fun hN => ?_); have HE : Aside0 (D = d1 s) := ⟨by rw [HD.out]; exact if_neg hN⟩; have HR : Aside0 (1 ≤ s.size) := ⟨by omega⟩; clear HD HQ hN; have HD := HE; have HQ := HR; clear HE HR; refine (small_ok w _ g s 0 HS.out (by have := HQ.out; omega) T0.out.I T0.out.B).mono ?_; rintro e wb0 ⟨rfl, hi, hb, hk⟩; have S1 := Aside0.mk (T0.out.call hi hb hk); have z := S1.out.c2 0; have zf := S1.out.f2 0; clear hi hb hk T0)
    | (refine wpList_load_row rfl 65 (.tmp 4) rfl g4 rfl 65 #[.pointer (some ⟨g, 0, none⟩)] (0, 0) _ (S1.out.put 0 (.int .i64 (rdv s 0 1))).K4 Try.underlying65 rfl size65 ?_; have T1 : Aside0 (De w _ g g2 g3 g4 s _ #[.int .i64 (rdv s 0 1), .int .i64 0, .int .i64 0, .int .u64 0, .int .i64 0, .slice none 0 0, .int .u64 0, .int .u64 0, .int .u64 0, .int .u64 0, .int .u64 0, .int .u64 0, .int .u64 0, .slice none 0 0, .slice none 0 0, .float .f64 0] _ _ _ _ _ _) := ⟨S1.out.put 0 (.int .i64 (rdv s 0 1))⟩; generalize World.setCell _ _ _ = wa1 at T1 ⊢; (try clear z); (try clear zf); clear S1)
    | (go_at_call 27; refine Classical.byCases (p := s.size < 2) (fun hN => by (refine (small_bad w _ g s 1 (by have := HQ.out; omega) (by omega) T1.out.I T1.out.B).mono ?_; rintro e w' ⟨rfl, hb, hk⟩; exact door_bad w _ g2 g3 _ D 10 _ N23.out T1.out.sz (hk.blk T1.out.K2 T1.out.n2 (by simp)) (hk.blk T1.out.K3 T1.out.n3 (by simp)) L2.out L3.out hb (by rw [HD.out]; exact if_pos hN) rfl rfl)) (fun hN => ?_); have HE : Aside0 (D = d2 s) := ⟨by rw [HD.out]; exact if_neg hN⟩; have HR : Aside0 (2 ≤ s.size) := ⟨by omega⟩; clear HD HQ hN; have HD := HE; have HQ := HR; clear HE HR; refine (small_ok w _ g s 1 HS.out (by have := HQ.out; omega) T1.out.I T1.out.B).mono ?_; rintro e wb1 ⟨rfl, hi, hb, hk⟩; have S2 := Aside0.mk (T1.out.call hi hb hk); have z := S2.out.c2 1; have zf := S2.out.f2 1; clear hi hb hk T1)
    | (refine wpList_load_row rfl 65 (.tmp 4) rfl g4 rfl 65 #[.pointer (some ⟨g, 0, none⟩)] (0, 0) _ (S2.out.put 1 (.int .i64 (rdv s 1 1))).K4 Try.underlying65 rfl size65 ?_; have T2 : Aside0 (De w _ g g2 g3 g4 s _ #[.int .i64 (rdv s 0 1), .int .i64 (rdv s 1 1), .int .i64 0, .int .u64 0, .int .i64 0, .slice none 0 0, .int .u64 0, .int .u64 0, .int .u64 0, .int .u64 0, .int .u64 0, .int .u64 0, .int .u64 0, .slice none 0 0, .slice none 0 0, .float .f64 0] _ _ _ _ _ _) := ⟨S2.out.put 1 (.int .i64 (rdv s 1 1))⟩; generalize World.setCell _ _ _ = wa2 at T2 ⊢; (try clear z); (try clear zf); clear S2)
    | (go_at_call 27; refine Classical.byCases (p := s.size < 3) (fun hN => by (refine (small_bad w _ g s 2 (by have := HQ.out; omega) (by omega) T2.out.I T2.out.B).mono ?_; rintro e w' ⟨rfl, hb, hk⟩; exact door_bad w _ g2 g3 _ D 10 _ N23.out T2.out.sz (hk.blk T2.out.K2 T2.out.n2 (by simp)) (hk.blk T2.out.K3 T2.out.n3 (by simp)) L2.out L3.out hb (by rw [HD.out]; exact if_pos hN) rfl rfl)) (fun hN => ?_); have HE : Aside0 (D = d3 s) := ⟨by rw [HD.out]; exact if_neg hN⟩; have HR : Aside0 (3 ≤ s.size) := ⟨by omega⟩; clear HD HQ hN; have HD := HE; have HQ := HR; clear HE HR; refine (small_ok w _ g s 2 HS.out (by have := HQ.out; omega) T2.out.I T2.out.B).mono ?_; rintro e wb2 ⟨rfl, hi, hb, hk⟩; have S3 := Aside0.mk (T2.out.call hi hb hk); have z := S3.out.c2 2; have zf := S3.out.f2 2; clear hi hb hk T2)
    | (refine wpList_load_row rfl 65 (.tmp 4) rfl g4 rfl 65 #[.pointer (some ⟨g, 0, none⟩)] (0, 0) _ (S3.out.put 2 (.int .i64 (rdv s 2 1))).K4 Try.underlying65 rfl size65 ?_; have T3 : Aside0 (De w _ g g2 g3 g4 s _ #[.int .i64 (rdv s 0 1), .int .i64 (rdv s 1 1), .int .i64 (rdv s 2 1), .int .u64 0, .int .i64 0, .slice none 0 0, .int .u64 0, .int .u64 0, .int .u64 0, .int .u64 0, .int .u64 0, .int .u64 0, .int .u64 0, .slice none 0 0, .slice none 0 0, .float .f64 0] _ _ _ _ _ _) := ⟨S3.out.put 2 (.int .i64 (rdv s 2 1))⟩; generalize World.setCell _ _ _ = wa3 at T3 ⊢; (try clear z); (try clear zf); clear S3)
    | (go_at_call 28; refine Classical.byCases (p := s.size < 11) (fun hN => by (refine (large_bad w _ g s 3 (by have := HQ.out; omega) (by omega) T3.out.I T3.out.B).mono ?_; rintro e w' ⟨rfl, hb, hk⟩; exact door_bad w _ g2 g3 _ D 10 _ N23.out T3.out.sz (hk.blk T3.out.K2 T3.out.n2 (by simp)) (hk.blk T3.out.K3 T3.out.n3 (by simp)) L2.out L3.out hb (by rw [HD.out]; exact if_pos hN) rfl rfl)) (fun hN => ?_); have HE : Aside0 (D = d4 s) := ⟨by rw [HD.out]; exact if_neg hN⟩; have HR : Aside0 (11 ≤ s.size) := ⟨by omega⟩; clear HD HQ hN; have HD := HE; have HQ := HR; clear HE HR; refine (large_ok w _ g s 3 HS.out (by have := HQ.out; omega) T3.out.I T3.out.B).mono ?_; rintro e wb3 ⟨rfl, hi, hb, hk⟩; have S4 := Aside0.mk (T3.out.call hi hb hk); have z := S4.out.c2 3; have zf := S4.out.f2 3; clear hi hb hk T3)
    | (refine wpList_load_row rfl 65 (.tmp 4) rfl g4 rfl 65 #[.pointer (some ⟨g, 0, none⟩)] (0, 0) _ (S4.out.put 3 (.int .u64 (rdv s 3 8))).K4 Try.underlying65 rfl size65 ?_; have T4 : Aside0 (De w _ g g2 g3 g4 s _ #[.int .i64 (rdv s 0 1), .int .i64 (rdv s 1 1), .int .i64 (rdv s 2 1), .int .u64 (rdv s 3 8), .int .i64 0, .slice none 0 0, .int .u64 0, .int .u64 0, .int .u64 0, .int .u64 0, .int .u64 0, .int .u64 0, .int .u64 0, .slice none 0 0, .slice none 0 0, .float .f64 0] _ _ _ _ _ _) := ⟨S4.out.put 3 (.int .u64 (rdv s 3 8))⟩; generalize World.setCell _ _ _ = wa4 at T4 ⊢; (try clear z); (try clear zf); clear S4)
    | (go_at_call 27; refine Classical.byCases (p := s.size < 12) (fun hN => by (refine (small_bad w _ g s 11 (by have := HQ.out; omega) (by omega) T4.out.I T4.out.B).mono ?_; rintro e w' ⟨rfl, hb, hk⟩; exact door_bad w _ g2 g3 _ D 10 _ N23.out T4.out.sz (hk.blk T4.out.K2 T4.out.n2 (by simp)) (hk.blk T4.out.K3 T4.out.n3 (by simp)) L2.out L3.out hb (by rw [HD.out]; exact if_pos hN) rfl rfl)) (fun hN => ?_); have HE : Aside0 (D = d5 s) := ⟨by rw [HD.out]; exact if_neg hN⟩; have HR : Aside0 (12 ≤ s.size) := ⟨by omega⟩; clear HD HQ hN; have HD := HE; have HQ := HR; clear HE HR; refine (small_ok w _ g s 11 HS.out (by have := HQ.out; omega) T4.out.I T4.out.B).mono ?_; rintro e wb4 ⟨rfl, hi, hb, hk⟩; have S5 := Aside0.mk (T4.out.call hi hb hk); have z := S5.out.c2 4; have zf := S5.out.f2 4; clear hi hb hk T4)
    | (refine wpList_load_row rfl 65 (.tmp 4) rfl g4 rfl 65 #[.pointer (some ⟨g, 0, none⟩)] (0, 0) _ (S5.out.put 4 (.int .i64 (rdv s 11 1))).K4 Try.underlying65 rfl size65 ?_; have T5 : Aside0 (De w _ g g2 g3 g4 s _ #[.int .i64 (rdv s 0 1), .int .i64 (rdv s 1 1), .int .i64 (rdv s 2 1), .int .u64 (rdv s 3 8), .int .i64 (rdv s 11 1), .slice none 0 0, .int .u64 0, .int .u64 0, .int .u64 0, .int .u64 0, .int .u64 0, .int .u64 0, .int .u64 0, .slice none 0 0, .slice none 0 0, .float .f64 0] _ _ _ _ _ _) := ⟨S5.out.put 4 (.int .i64 (rdv s 11 1))⟩; generalize World.setCell _ _ _ = wa5 at T5 ⊢; (try clear z); (try clear zf); clear S5)
    | (refine wpList_load_row rfl 65 (.tmp 4) rfl g4 rfl 65 #[.pointer (some ⟨g, 0, none⟩)] (0, 0) _ T5.out.K4 Try.underlying65 rfl size65 ?_)
    | (go_at_call 29; refine Or.elim (except_or (listI s (itU s) 8 12)) (fun hN => by (obtain ⟨er, hL⟩ := hN; refine (upd_list_bad w _ g s 12 8 (by have := HQ.out; omega) HS.out T5.out.I T5.out.B er hL).mono ?_; rintro e w' ⟨rfl, hb, hk⟩; exact door_bad w _ g2 g3 _ D er _ N23.out T5.out.sz (hk.blk T5.out.K2 T5.out.n2 (by simp)) (hk.blk T5.out.K3 T5.out.n3 (by simp)) L2.out L3.out hb (by rw [HD.out]; unfold d5; rw [hL]) rfl rfl)) (fun hN => ?_); obtain ⟨⟨l5, q⟩, hL⟩ := hN; have HE : Aside0 (D = d6 s l5 q) := ⟨by rw [HD.out]; unfold d5; rw [hL]⟩; have HL5 := Aside0.mk hL; clear hL HD; have HD := HE; clear HE; refine (upd_list_ok w _ g s 12 8 (by have := HQ.out; omega) HS.out T5.out.I T5.out.B l5 q HL5.out).mono ?_; rintro e wb5 ⟨v, rfl, ho, hi, hq, hb, hk⟩; obtain ⟨A5, c5, rfl⟩ := Kd.R_slice ho; have HR : Aside0 (q ≤ s.size) := ⟨hq⟩; clear HQ; have HQ := HR; clear HR; have S6 := Aside0.mk ((T5.out.call hi hb hk).row5 (Kd.R_mono (Kd.R_lower ho T5.out.B.size) (fun _ _ => trivial))); have z := S6.out.c2 5; have zf := S6.out.f2 5; clear hi hb hk ho hq T5)
    | (refine wpList_load_row rfl 65 (.tmp 4) rfl g4 rfl 65 #[.pointer (some ⟨g, 0, none⟩)] (0, 0) _ (S6.out.put 5 (.slice A5 l5.length c5)).K4 Try.underlying65 rfl size65 ?_; have T6 : Aside0 (De w _ g g2 g3 g4 s _ #[.int .i64 (rdv s 0 1), .int .i64 (rdv s 1 1), .int .i64 (rdv s 2 1), .int .u64 (rdv s 3 8), .int .i64 (rdv s 11 1), .slice A5 l5.length c5, .int .u64 0, .int .u64 0, .int .u64 0, .int .u64 0, .int .u64 0, .int .u64 0, .int .u64 0, .slice none 0 0, .slice none 0 0, .float .f64 0] _ _ _ _ _ _) := ⟨S6.out.put 5 (.slice A5 l5.length c5)⟩; generalize World.setCell _ _ _ = wa6 at T6 ⊢; (try clear z); (try clear zf); clear S6)
    | (go_at_call 31; refine Classical.byCases (p := s.size < q + 16) (fun hN => by (refine (view_bad w _ g s q HS.out (by have := HQ.out; omega) (by omega) T6.out.I T6.out.B).mono ?_; rintro e w' ⟨rfl, hb, hk⟩; exact door_bad w _ g2 g3 _ D 10 _ N23.out T6.out.sz (hk.blk T6.out.K2 T6.out.n2 (by simp)) (hk.blk T6.out.K3 T6.out.n3 (by simp)) L2.out L3.out hb (by rw [HD.out]; exact if_pos hN) rfl rfl)) (fun hN => ?_); have HE : Aside0 (D = d7 s l5 q) := ⟨by rw [HD.out]; exact if_neg hN⟩; have HR : Aside0 (q + 16 ≤ s.size) := ⟨by omega⟩; clear HD HQ hN; have HD := HE; have HQ := HR; clear HE HR; refine (view_ok w _ g s q HS.out (by have := HQ.out; omega) T6.out.I T6.out.B).mono ?_; rintro e wb6 ⟨rfl, hi, hb, hk⟩; have S7 := Aside0.mk (T6.out.call hi hb hk); have z := fun j => S7.out.c2 j; have zf := fun j => S7.out.f2 j; clear hi hb hk T6)
    | (refine wpList_load_row rfl 65 (.tmp 4) rfl g4 rfl 65 #[.pointer (some ⟨g, 0, none⟩)] (0, 0) _ ((S7.out.put 6 (.int .u64 (rdv s q 8))).put 7 (.int .u64 (rdv s (q + 8) 8))).K4 Try.underlying65 rfl size65 ?_; have T7 : Aside0 (De w _ g g2 g3 g4 s _ #[.int .i64 (rdv s 0 1), .int .i64 (rdv s 1 1), .int .i64 (rdv s 2 1), .int .u64 (rdv s 3 8), .int .i64 (rdv s 11 1), .slice A5 l5.length c5, .int .u64 (rdv s q 8), .int .u64 (rdv s (q + 8) 8), .int .u64 0, .int .u64 0, .int .u64 0, .int .u64 0, .int .u64 0, .slice none 0 0, .slice none 0 0, .float .f64 0] _ _ _ _ _ _) := ⟨(S7.out.put 6 (.int .u64 (rdv s q 8))).put 7 (.int .u64 (rdv s (q + 8) 8))⟩; generalize World.setCell _ _ _ = wa7 at T7 ⊢; (try clear z); (try clear zf); clear S7)
    | (go_at_call 28; refine Classical.byCases (p := s.size < q + 24) (fun hN => by (refine (large_bad w _ g s (q + 16) (by have := HQ.out; omega) (by omega) T7.out.I T7.out.B).mono ?_; rintro e w' ⟨rfl, hb, hk⟩; exact door_bad w _ g2 g3 _ D 10 _ N23.out T7.out.sz (hk.blk T7.out.K2 T7.out.n2 (by simp)) (hk.blk T7.out.K3 T7.out.n3 (by simp)) L2.out L3.out hb (by rw [HD.out]; exact if_pos hN) rfl rfl)) (fun hN => ?_); have HE : Aside0 (D = d8 s l5 q) := ⟨by rw [HD.out]; exact if_neg hN⟩; have HR : Aside0 (q + 24 ≤ s.size) := ⟨by omega⟩; clear HD HQ hN; have HD := HE; have HQ := HR; clear HE HR; refine (large_ok w _ g s (q + 16) HS.out (by have := HQ.out; omega) T7.out.I T7.out.B).mono ?_; rintro e wb7 ⟨rfl, hi, hb, hk⟩; have S8 := Aside0.mk (T7.out.call hi hb hk); have z := S8.out.c2 8; have zf := S8.out.f2 8; clear hi hb hk T7)
    | (refine wpList_load_row rfl 65 (.tmp 4) rfl g4 rfl 65 #[.pointer (some ⟨g, 0, none⟩)] (0, 0) _ (S8.out.put 8 (.int .u64 (rdv s (q + 16) 8))).K4 Try.underlying65 rfl size65 ?_; have T8 : Aside0 (De w _ g g2 g3 g4 s _ #[.int .i64 (rdv s 0 1), .int .i64 (rdv s 1 1), .int .i64 (rdv s 2 1), .int .u64 (rdv s 3 8), .int .i64 (rdv s 11 1), .slice A5 l5.length c5, .int .u64 (rdv s q 8), .int .u64 (rdv s (q + 8) 8), .int .u64 (rdv s (q + 16) 8), .int .u64 0, .int .u64 0, .int .u64 0, .int .u64 0, .slice none 0 0, .slice none 0 0, .float .f64 0] _ _ _ _ _ _) := ⟨S8.out.put 8 (.int .u64 (rdv s (q + 16) 8))⟩; generalize World.setCell _ _ _ = wa8 at T8 ⊢; (try clear z); (try clear zf); clear S8)
    | (go_at_call 28; refine Classical.byCases (p := s.size < q + 32) (fun hN => by (refine (large_bad w _ g s (q + 24) (by have := HQ.out; omega) (by omega) T8.out.I T8.out.B).mono ?_; rintro e w' ⟨rfl, hb, hk⟩; exact door_bad w _ g2 g3 _ D 10 _ N23.out T8.out.sz (hk.blk T8.out.K2 T8.out.n2 (by simp)) (hk.blk T8.out.K3 T8.out.n3 (by simp)) L2.out L3.out hb (by rw [HD.out]; exact if_pos hN) rfl rfl)) (fun hN => ?_); have HE : Aside0 (D = d9 s l5 q) := ⟨by rw [HD.out]; exact if_neg hN⟩; have HR : Aside0 (q + 32 ≤ s.size) := ⟨by omega⟩; clear HD HQ hN; have HD := HE; have HQ := HR; clear HE HR; refine (large_ok w _ g s (q + 24) HS.out (by have := HQ.out; omega) T8.out.I T8.out.B).mono ?_; rintro e wb8 ⟨rfl, hi, hb, hk⟩; have S9 := Aside0.mk (T8.out.call hi hb hk); have z := S9.out.c2 9; have zf := S9.out.f2 9; clear hi hb hk T8)
    | (refine wpList_load_row rfl 65 (.tmp 4) rfl g4 rfl 65 #[.pointer (some ⟨g, 0, none⟩)] (0, 0) _ (S9.out.put 9 (.int .u64 (rdv s (q + 24) 8))).K4 Try.underlying65 rfl size65 ?_; have T9 : Aside0 (De w _ g g2 g3 g4 s _ #[.int .i64 (rdv s 0 1), .int .i64 (rdv s 1 1), .int .i64 (rdv s 2 1), .int .u64 (rdv s 3 8), .int .i64 (rdv s 11 1), .slice A5 l5.length c5, .int .u64 (rdv s q 8), .int .u64 (rdv s (q + 8) 8), .int .u64 (rdv s (q + 16) 8), .int .u64 (rdv s (q + 24) 8), .int .u64 0, .int .u64 0, .int .u64 0, .slice none 0 0, .slice none 0 0, .float .f64 0] _ _ _ _ _ _) := ⟨S9.out.put 9 (.int .u64 (rdv s (q + 24) 8))⟩; generalize World.setCell _ _ _ = wa9 at T9 ⊢; (try clear z); (try clear zf); clear S9)
    | (go_at_call 31; refine Classical.byCases (p := s.size < q + 48) (fun hN => by (refine (view_bad w _ g s (q + 32) HS.out (by have := HQ.out; omega) (by omega) T9.out.I T9.out.B).mono ?_; rintro e w' ⟨rfl, hb, hk⟩; exact door_bad w _ g2 g3 _ D 10 _ N23.out T9.out.sz (hk.blk T9.out.K2 T9.out.n2 (by simp)) (hk.blk T9.out.K3 T9.out.n3 (by simp)) L2.out L3.out hb (by rw [HD.out]; exact if_pos hN) rfl rfl)) (fun hN => ?_); have HE : Aside0 (D = d10 s l5 q) := ⟨by rw [HD.out]; exact if_neg hN⟩; have HR : Aside0 (q + 48 ≤ s.size) := ⟨by omega⟩; clear HD HQ hN; have HD := HE; have HQ := HR; clear HE HR; refine (view_ok w _ g s (q + 32) HS.out (by have := HQ.out; omega) T9.out.I T9.out.B).mono ?_; rintro e wb9 ⟨rfl, hi, hb, hk⟩; have S10 := Aside0.mk (T9.out.call hi hb hk); have z := fun j => S10.out.c2 j; have zf := fun j => S10.out.f2 j; clear hi hb hk T9)
    | (refine wpList_load_row rfl 65 (.tmp 4) rfl g4 rfl 65 #[.pointer (some ⟨g, 0, none⟩)] (0, 0) _ ((S10.out.put 10 (.int .u64 (rdv s (q + 32) 8))).put 11 (.int .u64 (rdv s (q + 32 + 8) 8))).K4 Try.underlying65 rfl size65 ?_; have T10 : Aside0 (De w _ g g2 g3 g4 s _ #[.int .i64 (rdv s 0 1), .int .i64 (rdv s 1 1), .int .i64 (rdv s 2 1), .int .u64 (rdv s 3 8), .int .i64 (rdv s 11 1), .slice A5 l5.length c5, .int .u64 (rdv s q 8), .int .u64 (rdv s (q + 8) 8), .int .u64 (rdv s (q + 16) 8), .int .u64 (rdv s (q + 24) 8), .int .u64 (rdv s (q + 32) 8), .int .u64 (rdv s (q + 32 + 8) 8), .int .u64 0, .slice none 0 0, .slice none 0 0, .float .f64 0] _ _ _ _ _ _) := ⟨(S10.out.put 10 (.int .u64 (rdv s (q + 32) 8))).put 11 (.int .u64 (rdv s (q + 32 + 8) 8))⟩; generalize World.setCell _ _ _ = wa10 at T10 ⊢; (try clear z); (try clear zf); clear S10)
    | (go_at_call 28; refine Classical.byCases (p := s.size < q + 56) (fun hN => by (refine (large_bad w _ g s (q + 48) (by have := HQ.out; omega) (by omega) T10.out.I T10.out.B).mono ?_; rintro e w' ⟨rfl, hb, hk⟩; exact door_bad w _ g2 g3 _ D 10 _ N23.out T10.out.sz (hk.blk T10.out.K2 T10.out.n2 (by simp)) (hk.blk T10.out.K3 T10.out.n3 (by simp)) L2.out L3.out hb (by rw [HD.out]; exact if_pos hN) rfl rfl)) (fun hN => ?_); have HE : Aside0 (D = d11 s l5 q) := ⟨by rw [HD.out]; exact if_neg hN⟩; have HR : Aside0 (q + 56 ≤ s.size) := ⟨by omega⟩; clear HD HQ hN; have HD := HE; have HQ := HR; clear HE HR; refine (large_ok w _ g s (q + 48) HS.out (by have := HQ.out; omega) T10.out.I T10.out.B).mono ?_; rintro e wb10 ⟨rfl, hi, hb, hk⟩; have S11 := Aside0.mk (T10.out.call hi hb hk); have z := S11.out.c2 12; have zf := S11.out.f2 12; clear hi hb hk T10)
    | (refine wpList_load_row rfl 65 (.tmp 4) rfl g4 rfl 65 #[.pointer (some ⟨g, 0, none⟩)] (0, 0) _ (S11.out.put 12 (.int .u64 (rdv s (q + 48) 8))).K4 Try.underlying65 rfl size65 ?_; have T11 : Aside0 (De w _ g g2 g3 g4 s _ #[.int .i64 (rdv s 0 1), .int .i64 (rdv s 1 1), .int .i64 (rdv s 2 1), .int .u64 (rdv s 3 8), .int .i64 (rdv s 11 1), .slice A5 l5.length c5, .int .u64 (rdv s q 8), .int .u64 (rdv s (q + 8) 8), .int .u64 (rdv s (q + 16) 8), .int .u64 (rdv s (q + 24) 8), .int .u64 (rdv s (q + 32) 8), .int .u64 (rdv s (q + 32 + 8) 8), .int .u64 (rdv s (q + 48) 8), .slice none 0 0, .slice none 0 0, .float .f64 0] _ _ _ _ _ _) := ⟨S11.out.put 12 (.int .u64 (rdv s (q + 48) 8))⟩; generalize World.setCell _ _ _ = wa11 at T11 ⊢; (try clear z); (try clear zf); clear S11)
    | (refine wpList_load_row rfl 65 (.tmp 4) rfl g4 rfl 65 #[.pointer (some ⟨g, 0, none⟩)] (0, 0) _ T11.out.K4 Try.underlying65 rfl size65 ?_)
    | (go_at_call 32; refine Or.elim (except_or (listI s (itP s) 6 (q + 56))) (fun hN => by (obtain ⟨er, hL⟩ := hN; refine (pc_list_bad w _ g s (q + 56) 6 (by have := HQ.out; omega) HS.out T11.out.I T11.out.B er hL).mono ?_; rintro e w' ⟨rfl, hb, hk⟩; exact door_bad w _ g2 g3 _ D er _ N23.out T11.out.sz (hk.blk T11.out.K2 T11.out.n2 (by simp)) (hk.blk T11.out.K3 T11.out.n3 (by simp)) L2.out L3.out hb (by rw [HD.out]; unfold d11; rw [hL]) rfl rfl)) (fun hN => ?_); obtain ⟨⟨l13, q2⟩, hL⟩ := hN; have HE : Aside0 (D = d12 s l5 q l13 q2) := ⟨by rw [HD.out]; unfold d11; rw [hL]⟩; have HL13 := Aside0.mk hL; clear hL HD; have HD := HE; clear HE; refine (pc_list_ok w _ g s (q + 56) 6 (by have := HQ.out; omega) HS.out T11.out.I T11.out.B l13 q2 HL13.out).mono ?_; rintro e wb11 ⟨v, rfl, ho, hi, hq, hb, hk⟩; obtain ⟨A13, c13, rfl⟩ := Kd.R_slice ho; have HR : Aside0 (q2 ≤ s.size) := ⟨hq⟩; clear HQ; have HQ := HR; clear HR; have S12 := Aside0.mk ((T11.out.call hi hb hk).row13 (Kd.R_mono (Kd.R_lower ho T11.out.B.size) (fun _ _ => trivial))); have z := S12.out.c2 13; have zf := S12.out.f2 13; clear hi hb hk ho hq T11)
    | (refine wpList_load_row rfl 65 (.tmp 4) rfl g4 rfl 65 #[.pointer (some ⟨g, 0, none⟩)] (0, 0) _ (S12.out.put 13 (.slice A13 l13.length c13)).K4 Try.underlying65 rfl size65 ?_; have T12 : Aside0 (De w _ g g2 g3 g4 s _ #[.int .i64 (rdv s 0 1), .int .i64 (rdv s 1 1), .int .i64 (rdv s 2 1), .int .u64 (rdv s 3 8), .int .i64 (rdv s 11 1), .slice A5 l5.length c5, .int .u64 (rdv s q 8), .int .u64 (rdv s (q + 8) 8), .int .u64 (rdv s (q + 16) 8), .int .u64 (rdv s (q + 24) 8), .int .u64 (rdv s (q + 32) 8), .int .u64 (rdv s (q + 32 + 8) 8), .int .u64 (rdv s (q + 48) 8), .slice A13 l13.length c13, .slice none 0 0, .float .f64 0] _ _ _ _ _ _) := ⟨S12.out.put 13 (.slice A13 l13.length c13)⟩; generalize World.setCell _ _ _ = wa12 at T12 ⊢; (try clear z); (try clear zf); clear S12)
    | (refine wpList_load_row rfl 65 (.tmp 4) rfl g4 rfl 65 #[.pointer (some ⟨g, 0, none⟩)] (0, 0) _ T12.out.K4 Try.underlying65 rfl size65 ?_)
    | (go_at_call 34; refine Or.elim (except_or (listI s (itX s) 16 q2)) (fun hN => by (obtain ⟨er, hL⟩ := hN; refine (sp_list_bad w _ g s q2 16 (by have := HQ.out; omega) HS.out T12.out.I T12.out.B er hL).mono ?_; rintro e w' ⟨rfl, hb, hk⟩; exact door_bad w _ g2 g3 _ D er _ N23.out T12.out.sz (hk.blk T12.out.K2 T12.out.n2 (by simp)) (hk.blk T12.out.K3 T12.out.n3 (by simp)) L2.out L3.out hb (by rw [HD.out]; unfold d12; rw [hL]) rfl rfl)) (fun hN => ?_); obtain ⟨⟨l14, q3⟩, hL⟩ := hN; have HE : Aside0 (D = d13 s l5 q l13 l14 q3) := ⟨by rw [HD.out]; unfold d12; rw [hL]⟩; have HL14 := Aside0.mk hL; clear hL HD; have HD := HE; clear HE; refine (sp_list_ok w _ g s q2 16 (by have := HQ.out; omega) HS.out T12.out.I T12.out.B l14 q3 HL14.out).mono ?_; rintro e wb12 ⟨v, rfl, ho, hi, hq, hb, hk⟩; obtain ⟨A14, c14, rfl⟩ := Kd.R_slice ho; have HR : Aside0 (q3 ≤ s.size) := ⟨hq⟩; clear HQ; have HQ := HR; clear HR; have S13 := Aside0.mk ((T12.out.call hi hb hk).row14 (Kd.R_mono (Kd.R_lower ho T12.out.B.size) (fun _ _ => trivial))); have z := S13.out.c2 14; have zf := S13.out.f2 14; clear hi hb hk ho hq T12; have x4 := blk_cell (S13.out.put 14 (.slice A14 l14.length c14)).K4 0))
  have S20 : Aside0 (De w _ g g2 g3 g4 s (q3 : Int) #[.int .i64 (rdv s 0 1), .int .i64 (rdv s 1 1), .int .i64 (rdv s 2 1), .int .u64 (rdv s 3 8), .int .i64 (rdv s 11 1), .slice A5 l5.length c5, .int .u64 (rdv s q 8), .int .u64 (rdv s (q + 8) 8), .int .u64 (rdv s (q + 16) 8), .int .u64 (rdv s (q + 24) 8), .int .u64 (rdv s (q + 32) 8), .int .u64 (rdv s (q + 32 + 8) 8), .int .u64 (rdv s (q + 48) 8), .slice A13 l13.length c13, .slice A14 l14.length c14, .float .f64 0] (.slice A5 l5.length c5) (.slice A13 l13.length c13) (.slice A14 l14.length c14) l5 l13 l14) := ⟨S13.out.put 14 (.slice A14 l14.length c14)⟩
  generalize World.setCell _ _ _ = w20 at S20 x4 ⊢
  clear S13 z zf
  by_cases hN : s.size < q3 + 8
  · have HN := Aside0.mk hN
    clear hN
    go_wp2_with (first
      | (go_at_call 37; refine (real37_bad w _ g s q3 HQ.out HN.out S20.out.I S20.out.B).mono ?_; rintro e w' ⟨x_, rfl, hb, hk⟩; have HB_ := Aside0.mk hb; have HK_ := Aside0.mk hk; clear hb hk)
      | (go_at_call 36; refine (must_flt_bad _ 10 (by decide) _).mono ?_; rintro e w'' ⟨rfl, rfl⟩))
    have hb := HB_.out
    have hk := HK_.out
    exact door_bad w _ g2 g3 _ D 10 _ N23.out S20.out.sz (hk.blk S20.out.K2 S20.out.n2 (by simp)) (hk.blk S20.out.K3 S20.out.n3 (by simp)) L2.out L3.out hb (by rw [HD.out]; exact if_pos HN.out) rfl rfl
  have HD1 : Aside0 (D = d14 s l5 q l13 l14 q3) := ⟨by rw [HD.out]; exact if_neg hN⟩
  clear HD
  have HD := HD1
  have HR : Aside0 (q3 + 8 ≤ s.size) := ⟨by omega⟩
  clear HD1 HQ hN
  by_cases hN : q3 + 8 < s.size
  · have HN := Aside0.mk hN
    clear hN
    go_wp2_with (first
      | (go_at_call 37; refine (real37_ok w _ g s q3 HS.out HR.out S20.out.I S20.out.B).mono ?_; rintro e w21 ⟨rfl, hi, hb, hk⟩; have S21 := Aside0.mk (S20.out.call hi hb hk); have z := S21.out.c2 15; have zf := S21.out.f2 15; have y4 := blk_cell (S21.out.put 15 (.float .f64 (loadF s q3))).K4 0; clear hi hb hk S20 x4)
      | (go_at_call 36; refine (must_flt_ok _ _).mono ?_; rintro e w'' ⟨rfl, rfl⟩)
      | (go_at_call 38; refine (end_more w _ g s (q3 + 8) HS.out HN.out (S21.out.put 15 (.float .f64 (loadF s q3))).I (S21.out.put 15 (.float .f64 (loadF s q3))).B).mono ?_; rintro e w22 ⟨rfl, hi, hb, hk⟩; have S22 := Aside0.mk ((S21.out.put 15 (.float .f64 (loadF s q3))).call hi hb hk); have x5 := blk_cell S22.out.K4 0; clear hi hb hk S21 z zf y4)
      | (go_at_call 38; refine (end_more w _ g s (q3 + 8) HS.out HN.out S22.out.I S22.out.B).mono ?_; rintro e w23 ⟨rfl, hi, hb, hk⟩; have S23 := Aside0.mk (S22.out.call hi hb hk); clear hi hb hk S22 x5))
    have hb := S23.out.B
    exact door_bad w _ g2 g3 _ D 11 _ N23.out S23.out.sz S23.out.K2 S23.out.K3 L2.out L3.out hb (by rw [HD.out]; exact if_pos HN.out) rfl rfl
  have HD1 : Aside0 (D = d15 s l5 q l13 l14 q3) := ⟨by rw [HD.out]; exact if_neg hN⟩
  clear HD
  have HD := HD1
  have HE : Aside0 (q3 + 8 = s.size) := ⟨by have := HR.out; omega⟩
  clear HD1 hN
  have hi32 : (Try.prog.info? 32).map (·.size) = some 16 := by kernel_rfl
  by_cases h1 : rdv s 0 1 < 1
  · have H1 := Aside0.mk h1
    go_wp2_with (first
      | (go_at_call 37; refine (real37_ok w _ g s q3 HS.out HR.out S20.out.I S20.out.B).mono ?_; rintro e w21 ⟨rfl, hi, hb, hk⟩; have S21 := Aside0.mk (S20.out.call hi hb hk); have z := S21.out.c2 15; have zf := S21.out.f2 15; have y4 := blk_cell (S21.out.put 15 (.float .f64 (loadF s q3))).K4 0; clear hi hb hk S20 x4)
      | (go_at_call 36; refine (must_flt_ok _ _).mono ?_; rintro e w'' ⟨rfl, rfl⟩)
      | (go_at_call 38; refine (end_done w _ g s (q3 + 8) HS.out HE.out (S21.out.put 15 (.float .f64 (loadF s q3))).I (S21.out.put 15 (.float .f64 (loadF s q3))).B).mono ?_; rintro e w22 ⟨rfl, hi, hb, hk⟩; have S22 : Aside0 (De w w22 g g2 g3 g4 s ((q3 + 8 : Nat) : Int) #[.int .i64 (rdv s 0 1), .int .i64 (rdv s 1 1), .int .i64 (rdv s 2 1), .int .u64 (rdv s 3 8), .int .i64 (rdv s 11 1), .slice A5 l5.length c5, .int .u64 (rdv s q 8), .int .u64 (rdv s (q + 8) 8), .int .u64 (rdv s (q + 16) 8), .int .u64 (rdv s (q + 24) 8), .int .u64 (rdv s (q + 32) 8), .int .u64 (rdv s (q + 32 + 8) 8), .int .u64 (rdv s (q + 48) 8), .slice A13 l13.length c13, .slice A14 l14.length c14, .float .f64 (loadF s q3)] (.slice A5 l5.length c5) (.slice A13 l13.length c13) (.slice A14 l14.length c14) l5 l13 l14) := ⟨(S21.out.put 15 (.float .f64 (loadF s q3))).call hi hb hk⟩; have z := S22.out.c2 0; clear hi hb hk S21 zf y4))
    have hb := S22.out.B
    exact door_bad w _ g2 g3 _ D 150 _ N23.out S22.out.sz S22.out.K2 S22.out.K3 L2.out L3.out hb (by rw [HD.out]; exact if_pos (.inl H1.out)) rfl rfl
  by_cases h2 : 14 < rdv s 0 1
  · have H2 := Aside0.mk h2
    go_wp2_with (first
      | (go_at_call 37; refine (real37_ok w _ g s q3 HS.out HR.out S20.out.I S20.out.B).mono ?_; rintro e w21 ⟨rfl, hi, hb, hk⟩; have S21 := Aside0.mk (S20.out.call hi hb hk); have z := S21.out.c2 15; have zf := S21.out.f2 15; have y4 := blk_cell (S21.out.put 15 (.float .f64 (loadF s q3))).K4 0; clear hi hb hk S20 x4)
      | (go_at_call 36; refine (must_flt_ok _ _).mono ?_; rintro e w'' ⟨rfl, rfl⟩)
      | (go_at_call 38; refine (end_done w _ g s (q3 + 8) HS.out HE.out (S21.out.put 15 (.float .f64 (loadF s q3))).I (S21.out.put 15 (.float .f64 (loadF s q3))).B).mono ?_; rintro e w22 ⟨rfl, hi, hb, hk⟩; have S22 : Aside0 (De w w22 g g2 g3 g4 s ((q3 + 8 : Nat) : Int) #[.int .i64 (rdv s 0 1), .int .i64 (rdv s 1 1), .int .i64 (rdv s 2 1), .int .u64 (rdv s 3 8), .int .i64 (rdv s 11 1), .slice A5 l5.length c5, .int .u64 (rdv s q 8), .int .u64 (rdv s (q + 8) 8), .int .u64 (rdv s (q + 16) 8), .int .u64 (rdv s (q + 24) 8), .int .u64 (rdv s (q + 32) 8), .int .u64 (rdv s (q + 32 + 8) 8), .int .u64 (rdv s (q + 48) 8), .slice A13 l13.length c13, .slice A14 l14.length c14, .float .f64 (loadF s q3)] (.slice A5 l5.length c5) (.slice A13 l13.length c13) (.slice A14 l14.length c14) l5 l13 l14) := ⟨(S21.out.put 15 (.float .f64 (loadF s q3))).call hi hb hk⟩; have z := S22.out.c2 0; clear hi hb hk S21 zf y4))
    have hb := S22.out.B
    exact door_bad w _ g2 g3 _ D 150 _ N23.out S22.out.sz S22.out.K2 S22.out.K3 L2.out L3.out hb (by rw [HD.out]; exact if_pos (.inr H2.out)) rfl rfl
  have HD1 : Aside0 (D = d16 s l5 q l13 l14 q3) := ⟨by rw [HD.out]; exact if_neg (by rintro (h | h); exact h1 h; exact h2 h)⟩
  clear HD
  have HD := HD1
  clear HD1
  cases hM : mayL (rdv s 0 1) (rdv s 1 1) (rdv s 2 1) (rdv s 11 1) l5 l13 l14 (loadF s q3)
  · have HM := Aside0.mk hM
    clear hM
    go_wp2_with (first
      | (go_at_call 37; refine (real37_ok w _ g s q3 HS.out HR.out S20.out.I S20.out.B).mono ?_; rintro e w21 ⟨rfl, hi, hb, hk⟩; have S21 := Aside0.mk (S20.out.call hi hb hk); have z := S21.out.c2 15; have zf := S21.out.f2 15; have y4 := blk_cell (S21.out.put 15 (.float .f64 (loadF s q3))).K4 0; clear hi hb hk S20 x4)
      | (go_at_call 36; refine (must_flt_ok _ _).mono ?_; rintro e w'' ⟨rfl, rfl⟩)
      | (go_at_call 38; refine (end_done w _ g s (q3 + 8) HS.out HE.out (S21.out.put 15 (.float .f64 (loadF s q3))).I (S21.out.put 15 (.float .f64 (loadF s q3))).B).mono ?_; rintro e w22 ⟨rfl, hi, hb, hk⟩; have S22 : Aside0 (De w w22 g g2 g3 g4 s ((q3 + 8 : Nat) : Int) #[.int .i64 (rdv s 0 1), .int .i64 (rdv s 1 1), .int .i64 (rdv s 2 1), .int .u64 (rdv s 3 8), .int .i64 (rdv s 11 1), .slice A5 l5.length c5, .int .u64 (rdv s q 8), .int .u64 (rdv s (q + 8) 8), .int .u64 (rdv s (q + 16) 8), .int .u64 (rdv s (q + 24) 8), .int .u64 (rdv s (q + 32) 8), .int .u64 (rdv s (q + 32 + 8) 8), .int .u64 (rdv s (q + 48) 8), .slice A13 l13.length c13, .slice A14 l14.length c14, .float .f64 (loadF s q3)] (.slice A5 l5.length c5) (.slice A13 l13.length c13) (.slice A14 l14.length c14) l5 l13 l14) := ⟨(S21.out.put 15 (.float .f64 (loadF s q3))).call hi hb hk⟩; have z := S22.out.c2 0; clear hi hb hk S21 zf y4)
      | (refine wpList_load_row rfl 32 (.tmp 2) rfl g2 rfl 32 #[.int .i64 (rdv s 0 1), .int .i64 (rdv s 1 1), .int .i64 (rdv s 2 1), .int .u64 (rdv s 3 8), .int .i64 (rdv s 11 1), .slice A5 l5.length c5, .int .u64 (rdv s q 8), .int .u64 (rdv s (q + 8) 8), .int .u64 (rdv s (q + 16) 8), .int .u64 (rdv s (q + 24) 8), .int .u64 (rdv s (q + 32) 8), .int .u64 (rdv s (q + 32 + 8) 8), .int .u64 (rdv s (q + 48) 8), .slice A13 l13.length c13, .slice A14 l14.length c14, .float .f64 (loadF s q3)] (0, 0) _ S22.out.K2 Try.underlying32 rfl hi32 ?_)
      | (go_at_call 18; refine (may_at (rdv s 0 1) (rdv s 1 1) (rdv s 2 1) (rdv s 3 8) (rdv s 11 1) A5 c5 l5 (rdv s q 8) (rdv s (q + 8) 8) (rdv s (q + 16) 8) (rdv s (q + 24) 8) (rdv s (q + 32) 8) (rdv s (q + 32 + 8) 8) (rdv s (q + 48) 8) A13 c13 l13 A14 c14 l14 (loadF s q3) _ (Kd.R_reads' S22.out.R5).2.2 (Kd.R_reads' S22.out.R5).2.1 (Kd.R_reads' S22.out.R13).2.2 (Kd.R_reads' S22.out.R13).2.1 (Kd.R_reads' S22.out.R14).2.2 (Kd.R_reads' S22.out.R14).2.1).mono ?_; rintro e w23 ⟨rfl, hb⟩; rw [HM.out]; have S23 := Aside0.mk (S22.out.below hb); clear hb z S22))
    have hb := S23.out.B
    exact door_bad w _ g2 g3 _ D 1 _ N23.out S23.out.sz S23.out.K2 S23.out.K3 L2.out L3.out hb (by rw [HD.out]; exact if_pos HM.out) rfl rfl
  · have HM := Aside0.mk hM
    clear hM
    go_wp2_with (first
      | (go_at_call 37; refine (real37_ok w _ g s q3 HS.out HR.out S20.out.I S20.out.B).mono ?_; rintro e w21 ⟨rfl, hi, hb, hk⟩; have S21 := Aside0.mk (S20.out.call hi hb hk); have z := S21.out.c2 15; have zf := S21.out.f2 15; have y4 := blk_cell (S21.out.put 15 (.float .f64 (loadF s q3))).K4 0; clear hi hb hk S20 x4)
      | (go_at_call 36; refine (must_flt_ok _ _).mono ?_; rintro e w'' ⟨rfl, rfl⟩)
      | (go_at_call 38; refine (end_done w _ g s (q3 + 8) HS.out HE.out (S21.out.put 15 (.float .f64 (loadF s q3))).I (S21.out.put 15 (.float .f64 (loadF s q3))).B).mono ?_; rintro e w22 ⟨rfl, hi, hb, hk⟩; have S22 : Aside0 (De w w22 g g2 g3 g4 s ((q3 + 8 : Nat) : Int) #[.int .i64 (rdv s 0 1), .int .i64 (rdv s 1 1), .int .i64 (rdv s 2 1), .int .u64 (rdv s 3 8), .int .i64 (rdv s 11 1), .slice A5 l5.length c5, .int .u64 (rdv s q 8), .int .u64 (rdv s (q + 8) 8), .int .u64 (rdv s (q + 16) 8), .int .u64 (rdv s (q + 24) 8), .int .u64 (rdv s (q + 32) 8), .int .u64 (rdv s (q + 32 + 8) 8), .int .u64 (rdv s (q + 48) 8), .slice A13 l13.length c13, .slice A14 l14.length c14, .float .f64 (loadF s q3)] (.slice A5 l5.length c5) (.slice A13 l13.length c13) (.slice A14 l14.length c14) l5 l13 l14) := ⟨(S21.out.put 15 (.float .f64 (loadF s q3))).call hi hb hk⟩; have z := S22.out.c2 0; clear hi hb hk S21 zf y4)
      | (refine wpList_load_row rfl 32 (.tmp 2) rfl g2 rfl 32 #[.int .i64 (rdv s 0 1), .int .i64 (rdv s 1 1), .int .i64 (rdv s 2 1), .int .u64 (rdv s 3 8), .int .i64 (rdv s 11 1), .slice A5 l5.length c5, .int .u64 (rdv s q 8), .int .u64 (rdv s (q + 8) 8), .int .u64 (rdv s (q + 16) 8), .int .u64 (rdv s (q + 24) 8), .int .u64 (rdv s (q + 32) 8), .int .u64 (rdv s (q + 32 + 8) 8), .int .u64 (rdv s (q + 48) 8), .slice A13 l13.length c13, .slice A14 l14.length c14, .float .f64 (loadF s q3)] (0, 0) _ S22.out.K2 Try.underlying32 rfl hi32 ?_)
      | (go_at_call 18; refine (may_at (rdv s 0 1) (rdv s 1 1) (rdv s 2 1) (rdv s 3 8) (rdv s 11 1) A5 c5 l5 (rdv s q 8) (rdv s (q + 8) 8) (rdv s (q + 16) 8) (rdv s (q + 24) 8) (rdv s (q + 32) 8) (rdv s (q + 32 + 8) 8) (rdv s (q + 48) 8) A13 c13 l13 A14 c14 l14 (loadF s q3) _ (Kd.R_reads' S22.out.R5).2.2 (Kd.R_reads' S22.out.R5).2.1 (Kd.R_reads' S22.out.R13).2.2 (Kd.R_reads' S22.out.R13).2.1 (Kd.R_reads' S22.out.R14).2.2 (Kd.R_reads' S22.out.R14).2.1).mono ?_; rintro e w23 ⟨rfl, hb⟩; rw [HM.out]; have S23 := Aside0.mk (S22.out.below hb); clear hb z S22)
      | (refine wpList_load_row rfl 32 (.tmp 2) rfl g2 rfl 32 #[.int .i64 (rdv s 0 1), .int .i64 (rdv s 1 1), .int .i64 (rdv s 2 1), .int .u64 (rdv s 3 8), .int .i64 (rdv s 11 1), .slice A5 l5.length c5, .int .u64 (rdv s q 8), .int .u64 (rdv s (q + 8) 8), .int .u64 (rdv s (q + 16) 8), .int .u64 (rdv s (q + 24) 8), .int .u64 (rdv s (q + 32) 8), .int .u64 (rdv s (q + 32 + 8) 8), .int .u64 (rdv s (q + 48) 8), .slice A13 l13.length c13, .slice A14 l14.length c14, .float .f64 (loadF s q3)] (0, 0) _ S23.out.K2 Try.underlying32 rfl hi32 ?_)
      | ((with_reducible refine gate_store (t := 32) (p := 2) rfl ?_); go_loud (refine wpList_store_row rfl 32 (.tmp 2) (.tmp 89) rfl g2 #[.int .i64 (rdv s 0 1), .int .i64 (rdv s 1 1), .int .i64 (rdv s 2 1), .int .u64 (rdv s 3 8), .int .i64 (rdv s 11 1), .slice A5 l5.length c5, .int .u64 (rdv s q 8), .int .u64 (rdv s (q + 8) 8), .int .u64 (rdv s (q + 16) 8), .int .u64 (rdv s (q + 24) 8), .int .u64 (rdv s (q + 32) 8), .int .u64 (rdv s (q + 32 + 8) 8), .int .u64 (rdv s (q + 48) 8), .slice A13 l13.length c13, .slice A14 l14.length c14, .float .f64 (loadF s q3)] rfl rfl 32 #[.int .i64 (rdv s 0 1), .int .i64 (rdv s 1 1), .int .i64 (rdv s 2 1), .int .u64 (rdv s 3 8), .int .i64 (rdv s 11 1), .slice A5 l5.length c5, .int .u64 (rdv s q 8), .int .u64 (rdv s (q + 8) 8), .int .u64 (rdv s (q + 16) 8), .int .u64 (rdv s (q + 24) 8), .int .u64 (rdv s (q + 32) 8), .int .u64 (rdv s (q + 32 + 8) 8), .int .u64 (rdv s (q + 48) 8), .slice A13 l13.length c13, .slice A14 l14.length c14, .float .f64 (loadF s q3)] S23.out.K2 hi32 rfl (one_L _ _ _ _ _ _ _ _ _ _ _ _ _ _ _ _ _ _ _ _ _ _) ?_); have RK2 := Aside0.mk (setRow_heap w23 g2 #[.int .i64 (rdv s 0 1), .int .i64 (rdv s 1 1), .int .i64 (rdv s 2 1), .int .u64 (rdv s 3 8), .int .i64 (rdv s 11 1), .slice A5 l5.length c5, .int .u64 (rdv s q 8), .int .u64 (rdv s (q + 8) 8), .int .u64 (rdv s (q + 16) 8), .int .u64 (rdv s (q + 24) 8), .int .u64 (rdv s (q + 32) 8), .int .u64 (rdv s (q + 32 + 8) 8), .int .u64 (rdv s (q + 48) 8), .slice A13 l13.length c13, .slice A14 l14.length c14, .float .f64 (loadF s q3)] #[.int .i64 (rdv s 0 1), .int .i64 (rdv s 1 1), .int .i64 (rdv s 2 1), .int .u64 (rdv s 3 8), .int .i64 (rdv s 11 1), .slice A5 l5.length c5, .int .u64 (rdv s q 8), .int .u64 (rdv s (q + 8) 8), .int .u64 (rdv s (q + 16) 8), .int .u64 (rdv s (q + 24) 8), .int .u64 (rdv s (q + 32) 8), .int .u64 (rdv s (q + 32 + 8) 8), .int .u64 (rdv s (q + 48) 8), .slice A13 l13.length c13, .slice A14 l14.length c14, .float .f64 (loadF s q3)] 32 (0, 0) S23.out.K2); have RK3 := Aside0.mk ((setRow_other w23 g2 g3 #[.int .i64 (rdv s 0 1), .int .i64 (rdv s 1 1), .int .i64 (rdv s 2 1), .int .u64 (rdv s 3 8), .int .i64 (rdv s 11 1), .slice A5 l5.length c5, .int .u64 (rdv s q 8), .int .u64 (rdv s (q + 8) 8), .int .u64 (rdv s (q + 16) 8), .int .u64 (rdv s (q + 24) 8), .int .u64 (rdv s (q + 32) 8), .int .u64 (rdv s (q + 32 + 8) 8), .int .u64 (rdv s (q + 48) 8), .slice A13 l13.length c13, .slice A14 l14.length c14, .float .f64 (loadF s q3)] (Ne.symm N23.out)).trans S23.out.K3); have RB := Aside0.mk (below_setRow S23.out.B L2.out #[.int .i64 (rdv s 0 1), .int .i64 (rdv s 1 1), .int .i64 (rdv s 2 1), .int .u64 (rdv s 3 8), .int .i64 (rdv s 11 1), .slice A5 l5.length c5, .int .u64 (rdv s q 8), .int .u64 (rdv s (q + 8) 8), .int .u64 (rdv s (q + 16) 8), .int .u64 (rdv s (q + 24) 8), .int .u64 (rdv s (q + 32) 8), .int .u64 (rdv s (q + 32 + 8) 8), .int .u64 (rdv s (q + 48) 8), .slice A13 l13.length c13, .slice A14 l14.length c14, .float .f64 (loadF s q3)]); have RR5 := Aside0.mk (row_step S23.out.R5 S23.out.K2 (by decide) #[.int .i64 (rdv s 0 1), .int .i64 (rdv s 1 1), .int .i64 (rdv s 2 1), .int .u64 (rdv s 3 8), .int .i64 (rdv s 11 1), .slice A5 l5.length c5, .int .u64 (rdv s q 8), .int .u64 (rdv s (q + 8) 8), .int .u64 (rdv s (q + 16) 8), .int .u64 (rdv s (q + 24) 8), .int .u64 (rdv s (q + 32) 8), .int .u64 (rdv s (q + 32 + 8) 8), .int .u64 (rdv s (q + 48) 8), .slice A13 l13.length c13, .slice A14 l14.length c14, .float .f64 (loadF s q3)]); have RR13 := Aside0.mk (row_step S23.out.R13 S23.out.K2 (by decide) #[.int .i64 (rdv s 0 1), .int .i64 (rdv s 1 1), .int .i64 (rdv s 2 1), .int .u64 (rdv s 3 8), .int .i64 (rdv s 11 1), .slice A5 l5.length c5, .int .u64 (rdv s q 8), .int .u64 (rdv s (q + 8) 8), .int .u64 (rdv s (q + 16) 8), .int .u64 (rdv s (q + 24) 8), .int .u64 (rdv s (q + 32) 8), .int .u64 (rdv s (q + 32 + 8) 8), .int .u64 (rdv s (q + 48) 8), .slice A13 l13.length c13, .slice A14 l14.length c14, .float .f64 (loadF s q3)]); have RR14 := Aside0.mk (row_step S23.out.R14 S23.out.K2 (by decide) #[.int .i64 (rdv s 0 1), .int .i64 (rdv s 1 1), .int .i64 (rdv s 2 1), .int .u64 (rdv s 3 8), .int .i64 (rdv s 11 1), .slice A5 l5.length c5, .int .u64 (rdv s q 8), .int .u64 (rdv s (q + 8) 8), .int .u64 (rdv s (q + 16) 8), .int .u64 (rdv s (q + 24) 8), .int .u64 (rdv s (q + 32) 8), .int .u64 (rdv s (q + 32 + 8) 8), .int .u64 (rdv s (q + 48) 8), .slice A13 l13.length c13, .slice A14 l14.length c14, .float .f64 (loadF s q3)]); generalize World.setRow w23 g2 _ = w24 at RK2 RK3 RB RR5 RR13 RR14 ⊢; have z3 := blk_cell RK3.out 0; have zf3 := blk_frozen RK3.out 0; clear S23))
    have Q2 := blk_far (p := ⟨g3, 0, none⟩) RK2.out N23.out (.int .i64 0)
    have Q3 := blk_put RK3.out 0 (.int .i64 0) rfl
    exact door_ok w _ g2 g3 (letterOf s l5 q l13 l14 q3) (.slice A5 l5.length c5) (.slice A13 l13.length c13) (.slice A14 l14.length c14) D _ Q2 Q3 (below_set RB.out L3.out) (by rw [HD.out]; exact if_neg (by rw [HM.out]; decide))
      (Kd.R_mono (Kd.R_far (p := ⟨g3, 0, none⟩) (Kd.R_types RR5.out RK3.out (by decide)) (fun _ h => h.2) _) (fun _ _ => trivial)) (Kd.R_mono (Kd.R_far (p := ⟨g3, 0, none⟩) (Kd.R_types RR13.out RK3.out (by decide)) (fun _ h => h.2) _) (fun _ _ => trivial)) (Kd.R_mono (Kd.R_far (p := ⟨g3, 0, none⟩) (Kd.R_types RR14.out RK3.out (by decide)) (fun _ h => h.2) _) (fun _ _ => trivial)) rfl rfl
end Go.Proofs.Ytondgoabnmgcaaa.B
end
section
/- By hand: the reference's reader with its first error: number, many, text. -/
namespace Go.Proofs.Ytondgoabnmgcaaa.B
open Go.RowKit Go.Proofs.YtondgoabnmgcaaaW.PrintWords Go.Proofs.YtondgoabnmgcaaaW.PrintLast Go.Proofs.YtondgoabnmgcaaaW.PrintMore
open Go.Proofs.YtondgoabnmgcaaaO.B (IsR emb_Number emb_Text emb_Left)
open Go.Proofs.YtondgoabnmgcaaaO.R (rdv rdv_range rbits refrd_ok refrd_short)
set_option linter.unusedSimpArgs false
set_option linter.unusedVariables false
/-- what n bytes read, where one stands (the place, the first error), and where one stands behind it -/
def rv (s : ByteArray) (n : Nat) (st : Nat × Int) : Int := if st.2 = 0 then (if s.size < st.1 + n then 0 else rdv s st.1 n) else 0
def nx (s : ByteArray) (n : Nat) (st : Nat × Int) : Nat × Int := if st.2 = 0 then (if s.size < st.1 + n then (st.1, 10) else (st.1 + n, 0)) else st
def mv (s : ByteArray) (most : Nat) (st : Nat × Int) : Int := if (nx s 1 st).2 = 0 then (if (most : Int) < rv s 1 st then 0 else rv s 1 st) else 0
def mx (s : ByteArray) (most : Nat) (st : Nat × Int) : Nat × Int := if (nx s 1 st).2 = 0 then (if (most : Int) < rv s 1 st then ((nx s 1 st).1, 1) else nx s 1 st) else nx s 1 st
def tv (s : ByteArray) (st : Nat × Int) : ByteArray := if st.2 = 0 then (if textE s st.1 = 0 then textS s st.1 else ⟨#[]⟩) else ⟨#[]⟩
def tx (s : ByteArray) (st : Nat × Int) : Nat × Int := if st.2 = 0 then (if textE s st.1 = 0 then (st.1 + 2 + textN s st.1, 0) else (st.1, textE s st.1)) else st
theorem nx_le {s : ByteArray} {n : Nat} {st : Nat × Int} (h : st.1 ≤ s.size) : (nx s n st).1 ≤ s.size := by
  unfold nx
  by_cases h1 : st.2 = 0
  · rw [if_pos h1]
    by_cases h2 : s.size < st.1 + n
    · rw [if_pos h2]; exact h
    · rw [if_neg h2]; show st.1 + n ≤ s.size; omega
  · rw [if_neg h1]; exact h
theorem mx_le {s : ByteArray} {n : Nat} {st : Nat × Int} (h : st.1 ≤ s.size) : (mx s n st).1 ≤ s.size := by
  unfold mx
  by_cases h1 : (nx s 1 st).2 = 0
  · rw [if_pos h1]
    by_cases h2 : (n : Int) < rv s 1 st
    · rw [if_pos h2]; exact nx_le h
    · rw [if_neg h2]; exact nx_le h
  · rw [if_neg h1]; exact nx_le h
theorem tx_le {s : ByteArray} {st : Nat × Int} (h : st.1 ≤ s.size) : (tx s st).1 ≤ s.size := by
  unfold tx
  by_cases h1 : st.2 = 0
  · rw [if_pos h1]
    by_cases h2 : textE s st.1 = 0
    · rw [if_pos h2]; exact textE_ok h2
    · rw [if_neg h2]; exact h
  · rw [if_neg h1]; exact h
theorem rv_range (s : ByteArray) (n : Nat) (st : Nat × Int) : 0 ≤ rv s n st ∧ rv s n st < 256 ^ n := by
  have h := rdv_range s n st.1
  have h2 : (0 : Int) < 256 ^ n := Int.pow_pos (by decide)
  unfold rv
  by_cases h1 : st.2 = 0
  · rw [if_pos h1]
    by_cases h3 : s.size < st.1 + n
    · rw [if_pos h3]; exact ⟨Int.le_refl _, h2⟩
    · rw [if_neg h3]; exact h
  · rw [if_neg h1]; exact ⟨Int.le_refl _, h2⟩
theorem rv_w (s : ByteArray) (st : Nat × Int) : wrap64 (rv s 1 st) = rv s 1 st := by
  have := rv_range s 1 st
  unfold wrap64
  omega
theorem isR_set {E E' : Int} {w0 W : World} {g : Nat} {s : ByteArray} {p : Int} (h : IsR E w0 W g s p) : IsR E' w0 (W.setCell ⟨g, 2, none⟩ (.int .i64 E')) g s p := by
  obtain ⟨hb, hg⟩ := h
  exact ⟨by simpa using blk_set hb 2 (.int .i64 E'), hg⟩
set_option maxHeartbeats 1000000 in
theorem rnumber_at (w0 w : World) (g : Nat) (s : ByteArray) (st : Nat × Int) (n : Nat) (h1 : 1 ≤ n) (h8 : n ≤ 8) (hs : s.size < 4611686018427387904) (hp : st.1 ≤ s.size) (hI : IsR st.2 w0 w g s st.1) (hB : Below w0.heap.size w0 w) :
    Calls Try.prog 40 #[.pointer (some ⟨g, 0, none⟩), .int .i64 n] w fun e w' => e = .returned (.int .u64 (rv s n st)) ∧ IsR (nx s n st).2 w0 w' g s (nx s n st).1 ∧ Below w0.heap.size w0 w' ∧ KeepBut w w' g none := by
  obtain ⟨p, E⟩ := st
  dsimp only at hp hI
  have z := blk_cell hI.1 2
  have zf := blk_frozen hI.1 2
  have HB := Aside0.mk hB
  have HI := Aside0.mk hI
  by_cases hE : E = 0
  · subst hE
    have key : ∃ (r1 r2 : Int) (r4 : Nat), Go.Proofs.YtondgoabnmgcaaaO.B.conventicleref01_Reader_Number.f (n + 2) s p n = some (r1, r2, s, (r4 : Int)) ∧ rv s n (p, 0) = r1 ∧ nx s n (p, 0) = (r4, r2) := by
      by_cases hn : s.size < p + n
      · refine ⟨0, 10, p, refrd_short s p n h1 h8 hp hn, ?_, ?_⟩
        · unfold rv; rw [if_pos rfl, if_pos hn]
        · unfold nx; rw [if_pos rfl, if_pos hn]
      · refine ⟨rdv s p n, 0, p + n, ?_, ?_, ?_⟩
        · rw [refrd_ok s p n h1 h8 hs (by omega)]; rfl
        · unfold rv; rw [if_pos rfl, if_neg hn]
        · unfold nx; rw [if_pos rfl, if_neg hn]
    obtain ⟨r1, r2, r4, hf, e1, e2⟩ := key
    rw [e1, e2]
    have HF := Aside0.mk hf
    have HG := Aside0.mk (show w0.heap.size ≤ g from hI.2)
    clear hI hB hf e1 e2 hp h1 h8 hs
    go_enter Try.func40, Try.ntmps40
    go_wp2_with (go_at_call 80; refine (emb_Number 0 (n + 2) g s p n r1 r2 s r4 w0 _ HI.out HB.out HF.out).mono ?_; rintro e w' ⟨rfl, hi, hb, hk⟩; have z2 := blk_cell hi.1 2; have zf2 := blk_frozen hi.1 2; have HI2 := Aside0.mk hi; have HB2 := Aside0.mk hb; have HK2 := Aside0.mk hk; clear hi hb hk z zf)
    go_ret
    exact ⟨rfl, isR_set HI2.out, below_set HB2.out HG.out, KeepBut.set_ HK2.out 2 _⟩
  · have e1 : rv s n (p, E) = 0 := by unfold rv; rw [if_neg hE]
    have e2 : nx s n (p, E) = (p, E) := by unfold nx; rw [if_neg hE]
    rw [e1, e2]
    clear hI hB e1 e2 hp
    go_enter Try.func40, Try.ntmps40
    go_wp2
    go_ret
    exact ⟨rfl, HI.out, HB.out, KeepBut.refl _ _ _⟩
set_option maxHeartbeats 1000000 in
theorem rmany_at (w0 w : World) (g : Nat) (s : ByteArray) (st : Nat × Int) (most : Nat) (hm : most < 256) (hs : s.size < 4611686018427387904) (hp : st.1 ≤ s.size) (hI : IsR st.2 w0 w g s st.1) (hB : Below w0.heap.size w0 w) :
    Calls Try.prog 41 #[.pointer (some ⟨g, 0, none⟩), .int .i64 most] w fun e w' => e = .returned (.int .i64 (mv s most st)) ∧ IsR (mx s most st).2 w0 w' g s (mx s most st).1 ∧ Below w0.heap.size w0 w' ∧ KeepBut w w' g none := by
  have HB := Aside0.mk hB
  have HI := Aside0.mk hI
  have HP := Aside0.mk hp
  have HS := Aside0.mk hs
  have HW := Aside0.mk (rv_w s st)
  have hG : w0.heap.size ≤ g := hI.2
  have HG := Aside0.mk hG
  obtain ⟨v, hv⟩ : ∃ v, v = rv s 1 st := ⟨_, rfl⟩
  obtain ⟨⟨p, E⟩, hx⟩ : ∃ x, x = nx s 1 st := ⟨_, rfl⟩
  have HV := Aside0.mk hv
  have HX := Aside0.mk hx
  have em : mv s most st = if E = 0 then (if (most : Int) < v then 0 else v) else 0 := by unfold mv; rw [← hv, ← hx]
  have ex : mx s most st = if E = 0 then (if (most : Int) < v then (p, 1) else (p, E)) else (p, E) := by unfold mx; rw [← hv, ← hx]
  rw [em, ex]
  clear hI hB hs hp hG em ex hv hx
  by_cases hE : E = 0
  · subst hE
    by_cases hvm : (most : Int) < v
    · rw [if_pos rfl, if_pos hvm, if_pos rfl, if_pos hvm]
      go_enter Try.func41, Try.ntmps41
      go_wp2_with (go_at_call 40; refine (rnumber_at w0 _ g s st 1 (by decide) (by decide) HS.out HP.out HI.out HB.out).mono ?_; rintro e w' ⟨rfl, hi, hb, hk⟩; rw [← HX.out] at hi; rw [← HV.out]; have hw := HW.out; rw [← HV.out] at hw; have z2 := blk_cell hi.1 2; have zf2 := blk_frozen hi.1 2; have HI2 := Aside0.mk hi; have HB2 := Aside0.mk hb; have HK2 := Aside0.mk hk; clear hi hb hk)
      go_ret
      exact ⟨rfl, isR_set HI2.out, below_set HB2.out HG.out, KeepBut.set_ HK2.out 2 _⟩
    · rw [if_pos rfl, if_neg hvm, if_pos rfl, if_neg hvm]
      go_enter Try.func41, Try.ntmps41
      go_wp2_with (go_at_call 40; refine (rnumber_at w0 _ g s st 1 (by decide) (by decide) HS.out HP.out HI.out HB.out).mono ?_; rintro e w' ⟨rfl, hi, hb, hk⟩; rw [← HX.out] at hi; rw [← HV.out]; have hw := HW.out; rw [← HV.out] at hw; have z2 := blk_cell hi.1 2; have zf2 := blk_frozen hi.1 2; have HI2 := Aside0.mk hi; have HB2 := Aside0.mk hb; have HK2 := Aside0.mk hk; clear hi hb hk)
      go_ret
      exact ⟨by have hw := HW.out; rw [← HV.out] at hw; exact congrArg (fun x => Ending.returned (.int .i64 x)) hw, HI2.out, HB2.out, HK2.out⟩
  · rw [if_neg hE, if_neg hE]
    go_enter Try.func41, Try.ntmps41
    go_wp2_with (go_at_call 40; refine (rnumber_at w0 _ g s st 1 (by decide) (by decide) HS.out HP.out HI.out HB.out).mono ?_; rintro e w' ⟨rfl, hi, hb, hk⟩; rw [← HX.out] at hi; rw [← HV.out]; have hw := HW.out; rw [← HV.out] at hw; have z2 := blk_cell hi.1 2; have zf2 := blk_frozen hi.1 2; have HI2 := Aside0.mk hi; have HB2 := Aside0.mk hb; have HK2 := Aside0.mk hk; clear hi hb hk)
    go_ret
    exact ⟨rfl, HI2.out, HB2.out, HK2.out⟩
theorem rtext_is (s : ByteArray) (p : Nat) (hs : s.size < 4611686018427387904) (hp : p ≤ s.size) :
    Go.Proofs.YtondgoabnmgcaaaO.B.conventicleref01_Reader_Text.f 4 s p 64 = some (tv s (p, 0), (tx s (p, 0)).2, s, ((tx s (p, 0)).1 : Int)) := by
  unfold Go.Proofs.YtondgoabnmgcaaaO.B.conventicleref01_Reader_Text.f tv tx
  rw [if_pos rfl, if_pos rfl]
  unfold textE
  by_cases h1 : s.size < p + 2
  · have e : Go.Proofs.YtondgoabnmgcaaaO.B.conventicleref01_Reader_Number.f 4 s p 2 = some (0, 10, s, (p : Int)) := refrd_short s p 2 (by decide) (by decide) hp h1
    rw [e, Option.bind_some]
    dsimp only
    rw [if_neg (by decide), if_pos h1, if_neg (by decide), if_neg (by decide)]
  have hr := rdv_range s 2 p
  have hr2 : rdv s p 2 < 65536 := hr.2
  have e : Go.Proofs.YtondgoabnmgcaaaO.B.conventicleref01_Reader_Number.f 4 s p 2 = some (rdv s p 2, 0, s, (p : Int) + 2) := refrd_ok s p 2 (by decide) (by decide) hs (by omega)
  rw [e, Option.bind_some]
  dsimp only
  have hw : wrap64 (rdv s p 2) = rdv s p 2 := by unfold wrap64; omega
  rw [if_pos rfl, hw, if_neg h1]
  by_cases h2 : 64 < rdv s p 2
  · rw [if_pos h2, if_pos h2, if_neg (by decide), if_neg (by decide)]
  rw [if_neg h2, if_neg h2]
  unfold Go.Proofs.YtondgoabnmgcaaaO.B.conventicleref01_Reader_Left.f
  rw [Option.bind_some]
  dsimp only
  have hw2 : wrap64 ((s.size : Int) - ((p : Int) + 2)) = (s.size : Int) - (p + 2) := by unfold wrap64; omega
  have hw3 : wrap64 ((p : Int) + 2 + rdv s p 2) = p + 2 + rdv s p 2 := by unfold wrap64; omega
  rw [hw2, hw3]
  by_cases h3 : s.size < p + 2 + (rdv s p 2).toNat
  · rw [if_pos (by omega), if_pos h3, if_neg (by decide), if_neg (by decide)]
  rw [if_neg (by omega), if_neg h3, if_pos (by omega), if_pos (by omega), if_pos (by omega), if_pos rfl, if_pos rfl]
  unfold textS textN
  have e1 : ((p : Int) + 2).toNat = p + 2 := by omega
  have e2 : ((p : Int) + 2 + rdv s p 2).toNat = p + 2 + (rdv s p 2).toNat := by omega
  rw [e1, e2]
  simp only [Option.some.injEq, Prod.mk.injEq, true_and]
  omega
set_option maxHeartbeats 1000000 in
theorem rtext_at (w0 w : World) (g : Nat) (s : ByteArray) (st : Nat × Int) (hs : s.size < 4611686018427387904) (hp : st.1 ≤ s.size) (hI : IsR st.2 w0 w g s st.1) (hB : Below w0.heap.size w0 w) :
    Calls Try.prog 42 #[.pointer (some ⟨g, 0, none⟩)] w fun e w' => e = .returned (.string (tv s st)) ∧ IsR (tx s st).2 w0 w' g s (tx s st).1 ∧ Below w0.heap.size w0 w' ∧ KeepBut w w' g none := by
  obtain ⟨p, E⟩ := st
  dsimp only at hp hI
  have z := blk_cell hI.1 2
  have zf := blk_frozen hI.1 2
  have HB := Aside0.mk hB
  have HI := Aside0.mk hI
  by_cases hE : E = 0
  · subst hE
    have hf := rtext_is s p hs hp
    obtain ⟨r1, e1⟩ : ∃ x, x = tv s (p, 0) := ⟨_, rfl⟩
    obtain ⟨⟨r4, r2⟩, e2⟩ : ∃ x, x = tx s (p, 0) := ⟨_, rfl⟩
    rw [← e1, ← e2] at hf ⊢
    dsimp only at hf ⊢
    have HF := Aside0.mk hf
    have HG := Aside0.mk (show w0.heap.size ≤ g from hI.2)
    clear hI hB hf e1 e2 hp hs
    go_enter Try.func42, Try.ntmps42
    go_wp2_with (go_at_call 81; refine (emb_Text 0 4 g s p 64 r1 r2 s r4 w0 _ HI.out HB.out HF.out).mono ?_; rintro e w' ⟨rfl, hi, hb, hk⟩; have z2 := blk_cell hi.1 2; have zf2 := blk_frozen hi.1 2; have HI2 := Aside0.mk hi; have HB2 := Aside0.mk hb; have HK2 := Aside0.mk hk; clear hi hb hk z zf)
    go_ret
    exact ⟨rfl, isR_set HI2.out, below_set HB2.out HG.out, KeepBut.set_ HK2.out 2 _⟩
  · have e1 : tv s (p, E) = ⟨#[]⟩ := by unfold tv; rw [if_neg hE]
    have e2 : tx s (p, E) = (p, E) := by unfold tx; rw [if_neg hE]
    rw [e1, e2]
    clear hI hB e1 e2 hp
    go_enter Try.func42, Try.ntmps42
    go_wp2
    go_ret
    exact ⟨rfl, HI.out, HB.out, KeepBut.refl _ _ _⟩
end Go.Proofs.Ytondgoabnmgcaaa.B
end
section
/- By hand: 'theirs' (printed by theirs.py). -/
namespace Go.Proofs.Ytondgoabnmgcaaa.B
open Go.RowKit Go.Proofs.YtondgoabnmgcaaaW.PrintWords Go.Proofs.YtondgoabnmgcaaaW.PrintLast Go.Proofs.YtondgoabnmgcaaaW.PrintMore
set_option linter.unusedSimpArgs false
set_option linter.unusedVariables false
def to90 (p : S53) : S90 := ⟨p.f0, p.f1⟩
theorem info90 : (Try.prog.info? 90).map (fun i => (i.zero, i.size, i.bytes)) = some (some (.agg #[(.int .u64 0), (.int .i64 0), (.int .u64 0), (.string ⟨#[]⟩)]), 4, 40) := by kernel_rfl
theorem si38 : (Try.prog.info? 38).map (·.size) = some 16 := by kernel_rfl
theorem own_typed' {α : Type} {d : Kd α} {e base : Nat} {ok : Nat → Prop} {w : World} {v : Value} {xs : List α} (h : Kd.R d e w base ok v xs) (k : Nat) (hk : v.ownBlock = some k) {cs : Array Value} {t : TypeId} (hb : w.heap[k]? = some (.cells cs t (0, 0))) : e = t := by
  obtain ⟨inner, ho, _⟩ := h.2
  obtain ⟨cells, hc⟩ := own_typed ho k hk
  rw [hc] at hb
  injection hb with hb
  injection hb
theorem row_step38 {w : World} {g : Nat} {cs : Array Value} {v : Value} {α : Type} {d : Kd α} {e base : Nat} {l : List α} (h : Kd.R d e w base (fun _ => True) v l) (hb : w.heap[g]? = some (.cells cs 38 (0, 0))) (ht : ∀ q, q ∈ e :: d.E → q ≠ 38) (cs' : Array Value) : Kd.R d e (w.setRow g cs') base (fun _ => True) v l := 
  Kd.R_mono (Kd.R_step (Kd.R_types h hb ht) (fun k hk _ => setRow_other w g k cs' hk.2)) (fun _ _ => trivial)
set_option maxRecDepth 100000 in
set_option maxHeartbeats 4000000 in
theorem theirs_at (a0 a1 a2 a3 a4 : Int) (A5 : Option Addr) (c5 : Nat) (l5 : List S70) (a6 a7 a8 a9 a10 a11 a12 : Int) (A13 : Option Addr) (c13 : Nat) (l13 : List S53) (A14 : Option Addr) (c14 : Nat) (l14 : List S77) (a15 : Nat) (w : World) (hr5 : Kd.C k70 w A5 l5.length l5) (hr13 : Kd.C k53 w A13 l13.length l13) (hr14 : Kd.C k77 w A14 l14.length l14) (hl : l13.length ≤ 1000) :
    Calls Try.prog 13 #[.agg #[.int .i64 a0, .int .i64 a1, .int .i64 a2, .int .u64 a3, .int .i64 a4, .slice A5 l5.length c5, .int .u64 a6, .int .u64 a7, .int .u64 a8, .int .u64 a9, .int .u64 a10, .int .u64 a11, .int .u64 a12, .slice A13 l13.length c13, .slice A14 l14.length c14, .float .f64 a15]] w fun e w' => ∃ v, e = .returned (.agg #[.int .i64 a0, .int .i64 a1, .int .i64 a2, .int .u64 a3, .int .i64 a4, .slice A5 l5.length c5, .int .u64 a6, .int .u64 a7, .int .u64 a8, .int .u64 a9, .int .u64 a10, .int .u64 a11, .int .u64 a12, v, .slice A14 l14.length c14, .float .f64 a15]) ∧ Kd.R k90 90 w' w.heap.size (fun _ => True) v (l13.map to90) ∧ Below w.heap.size w w' := by
  have H13 := Aside0.mk hr13
  have si38 := si38
  have hlen : (l13.length : Int) ≤ 9223372036854775807 := by omega
  have HL := Aside0.mk hl
  clear hr5 hr13 hr14 hl
  go_enter Try.func13, Try.ntmps13
  go_wp2_with (first
    | ((with_reducible refine gate_dst (N := 1) rfl ?_); refine box_event ?hg (N := 1) ?hd (cs := #[.int .i64 a0, .int .i64 a1, .int .i64 a2, .int .u64 a3, .int .i64 a4, .slice A5 l5.length c5, .int .u64 a6, .int .u64 a7, .int .u64 a8, .int .u64 a9, .int .u64 a10, .int .u64 a11, .int .u64 a12, .slice A13 l13.length c13, .slice A14 l14.length c14, .float .f64 a15]) (t := 32) ?hr ?_; (case hd => rfl); (case hg => rfl); (case hr => first | (go_simp; done) | (go_simp; rfl)); intro g1 hg_ w1 hb_ hB_; have K1 := Aside0.mk hb_; have B1 := Aside0.mk hB_; have x := fun j => blk_cell K1.out j; clear hg_ hb_ hB_)
    | ((with_reducible refine gate_dst (N := 2) rfl ?_); refine box_event ?hg (N := 2) ?hd (cs := #[.int .i64 0, .int .i64 0, .int .i64 0, .int .u64 0, .int .i64 0, .slice none 0 0, .int .u64 0, .int .u64 0, .int .u64 0, .int .u64 0, .int .u64 0, .int .u64 0, .int .u64 0, .slice none 0 0, .slice none 0 0, .float .f64 0]) (t := 38) ?hr ?_; (case hd => rfl); (case hg => rfl); (case hr => first | (go_simp; done) | (go_simp; rfl)); intro g2 hg_ w2 hb_ hB_; have K2 := Aside0.mk hb_; have K1b := Aside0.mk (blk_below K1.out hB_); have B2 := Aside0.mk (below_step B1.out hB_); have L2 := Aside0.mk (show w.heap.size ≤ g2 by rw [hg_]; exact B1.out.size); clear x hg_ hb_ hB_; have x := fun j => blk_cell K1b.out j)
    | ((with_reducible refine gate_dst (N := 3) rfl ?_); refine box_event ?hg (N := 3) ?hd (cs := #[.int .i64 0, .int .i64 0, .int .i64 0, .int .u64 0, .int .i64 0, .slice none 0 0, .int .u64 0, .int .u64 0, .int .u64 0, .int .u64 0, .int .u64 0, .int .u64 0, .int .u64 0, .slice none 0 0, .slice none 0 0, .float .f64 0]) (t := 38) ?hr ?_; (case hd => rfl); (case hg => rfl); (case hr => first | (go_simp; done) | (go_simp; rfl)); intro g3 hg_ w3 hb_ hB_; have K3 := Aside0.mk hb_; have K1c := Aside0.mk (blk_below K1b.out hB_); have K2c := Aside0.mk (blk_below K2.out hB_); have B3 := Aside0.mk (below_step B2.out hB_); have L3 := Aside0.mk (show w.heap.size ≤ g3 by rw [hg_]; exact B2.out.size); have N13 := Aside0.mk (show g1 ≠ g3 by have := blk_lt K1b.out; omega); have N23 := Aside0.mk (show g2 ≠ g3 by have := blk_lt K2.out; omega); clear x K1 K1b K2 B1 B2 hg_ hb_ hB_; have x := fun j => blk_cell K1c.out j)
    | ((with_reducible refine gate_store (t := 38) (p := 3) rfl ?_); go_loud (refine wpList_store_row rfl 38 (.tmp 3) (.tmp 31) rfl g3 #[.int .i64 a0, .int .i64 a1, .int .i64 a2, .int .u64 a3, .int .i64 a4, .slice A5 l5.length c5, .int .u64 a6, .int .u64 a7, .int .u64 a8, .int .u64 a9, .int .u64 a10, .int .u64 a11, .int .u64 a12, .slice none 0 0, .slice A14 l14.length c14, .float .f64 a15] rfl rfl 38 #[.int .i64 0, .int .i64 0, .int .i64 0, .int .u64 0, .int .i64 0, .slice none 0 0, .int .u64 0, .int .u64 0, .int .u64 0, .int .u64 0, .int .u64 0, .int .u64 0, .int .u64 0, .slice none 0 0, .slice none 0 0, .float .f64 0] K3.out si38 rfl (one_L _ _ _ _ _ _ _ _ _ _ _ _ _ _ _ _ _ _ _ _ _ _) ?_); have K3d := Aside0.mk (setRow_heap w3 g3 #[.int .i64 0, .int .i64 0, .int .i64 0, .int .u64 0, .int .i64 0, .slice none 0 0, .int .u64 0, .int .u64 0, .int .u64 0, .int .u64 0, .int .u64 0, .int .u64 0, .int .u64 0, .slice none 0 0, .slice none 0 0, .float .f64 0] #[.int .i64 a0, .int .i64 a1, .int .i64 a2, .int .u64 a3, .int .i64 a4, .slice A5 l5.length c5, .int .u64 a6, .int .u64 a7, .int .u64 a8, .int .u64 a9, .int .u64 a10, .int .u64 a11, .int .u64 a12, .slice none 0 0, .slice A14 l14.length c14, .float .f64 a15] 38 (0, 0) K3.out); have K1d := Aside0.mk ((setRow_other w3 g3 g1 #[.int .i64 a0, .int .i64 a1, .int .i64 a2, .int .u64 a3, .int .i64 a4, .slice A5 l5.length c5, .int .u64 a6, .int .u64 a7, .int .u64 a8, .int .u64 a9, .int .u64 a10, .int .u64 a11, .int .u64 a12, .slice none 0 0, .slice A14 l14.length c14, .float .f64 a15] N13.out).trans K1c.out); have K2d := Aside0.mk ((setRow_other w3 g3 g2 #[.int .i64 a0, .int .i64 a1, .int .i64 a2, .int .u64 a3, .int .i64 a4, .slice A5 l5.length c5, .int .u64 a6, .int .u64 a7, .int .u64 a8, .int .u64 a9, .int .u64 a10, .int .u64 a11, .int .u64 a12, .slice none 0 0, .slice A14 l14.length c14, .float .f64 a15] N23.out).trans K2c.out); have B4 := Aside0.mk (below_setRow B3.out L3.out #[.int .i64 a0, .int .i64 a1, .int .i64 a2, .int .u64 a3, .int .i64 a4, .slice A5 l5.length c5, .int .u64 a6, .int .u64 a7, .int .u64 a8, .int .u64 a9, .int .u64 a10, .int .u64 a11, .int .u64 a12, .slice none 0 0, .slice A14 l14.length c14, .float .f64 a15]); generalize World.setRow w3 g3 _ = w4 at K3d K1d K2d B4 ⊢; clear x K3 K1c K2c B3))
  go_loopw [4] (fun i wr => ∃ (j : Nat) (v : Value), i = .int .i64 j ∧ Aside0 (j ≤ l13.length) ∧ Aside0 (wr.heap[g1]? = some (.cells #[.int .i64 a0, .int .i64 a1, .int .i64 a2, .int .u64 a3, .int .i64 a4, .slice A5 l5.length c5, .int .u64 a6, .int .u64 a7, .int .u64 a8, .int .u64 a9, .int .u64 a10, .int .u64 a11, .int .u64 a12, .slice A13 l13.length c13, .slice A14 l14.length c14, .float .f64 a15] 32 (0, 0))) ∧ Aside0 (wr.heap[g2]? = some (.cells #[.int .i64 0, .int .i64 0, .int .i64 0, .int .u64 0, .int .i64 0, .slice none 0 0, .int .u64 0, .int .u64 0, .int .u64 0, .int .u64 0, .int .u64 0, .int .u64 0, .int .u64 0, .slice none 0 0, .slice none 0 0, .float .f64 0] 38 (0, 0))) ∧ Aside0 (wr.heap[g3]? = some (.cells #[.int .i64 a0, .int .i64 a1, .int .i64 a2, .int .u64 a3, .int .i64 a4, .slice A5 l5.length c5, .int .u64 a6, .int .u64 a7, .int .u64 a8, .int .u64 a9, .int .u64 a10, .int .u64 a11, .int .u64 a12, v, .slice A14 l14.length c14, .float .f64 a15] 38 (0, 0))) ∧ Aside0 (Kd.R k90 90 wr w.heap.size (fun b => b ≠ g3) v ((l13.take j).map to90)) ∧ Aside0 (Below w.heap.size w wr))
    (fun i _ => l13.length - (intOf i).toNat)
  case atStart => exact ⟨0, .slice none 0 0, rfl, ⟨Nat.zero_le _⟩, K1d, K2d, K3d, ⟨Kd.R_nil _ _ _ _ _⟩, B4⟩
  case round =>
    obtain ⟨j, v, rfl, hj, K1, K2, K3, HO, HB⟩ := hrel
    clear K1d K2d K3d B4
    have x := fun i => blk_cell K1.out i
    by_cases hlt : j < l13.length
    · have HRr := Kd.C_below H13.out HB.out
      obtain ⟨ad, e, hy0, hy1, hy2, hy3⟩ := at_T53 HRr (j : Int) (by omega) (by have := HRr.2.1; omega)
      simp only [Int.toNat_natCast] at hy0 hy1 hy2 hy3
      obtain rfl := e
      obtain ⟨p, hp⟩ : ∃ p, p = rd_T53 l13 (j : Int) := ⟨_, rfl⟩
      have hlp : l13[j]? = some p := by
        rw [hp]
        unfold rd_T53
        rw [Int.toNat_natCast, List.getD_eq_getElem?_getD, List.getElem?_eq_getElem hlt]; rfl
      have HTK : Aside0 ((l13.take (j + 1)).map to90 = (l13.take j).map to90 ++ [to90 p]) := ⟨by
        obtain ⟨h1, h2⟩ := List.getElem?_eq_some_iff.1 hlp
        rw [List.take_succ_eq_append_getElem h1, List.map_append, h2]; rfl⟩
      rw [← hp] at hy0 hy1 hy2 hy3
      clear hp hlp HRr
      obtain ⟨f0, f1, f2, f3⟩ := p
      dsimp only at hy0 hy1 hy2 hy3
      have E0 : Aside0 (wr.drew.cell? (ad.add (j * 4)) = some (.int .u64 f0)) := ⟨hy0⟩
      have E1 : Aside0 (wr.drew.cell? ⟨(ad.add (j * 4)).block, (ad.add (j * 4)).off + 1, none⟩ = some (.int .i64 f1)) := ⟨hy1⟩
      have E2 : Aside0 (wr.drew.cell? ⟨(ad.add (j * 4)).block, (ad.add (j * 4)).off + 2, none⟩ = some (.int .u64 f2)) := ⟨hy2⟩
      have E3 : Aside0 (wr.drew.cell? ⟨(ad.add (j * 4)).block, (ad.add (j * 4)).off + 3, none⟩ = some (.string f3)) := ⟨hy3⟩
      have K1d := Aside0.mk (blk_drew K1.out)
      have K2d := Aside0.mk (blk_drew K2.out)
      have K3d := Aside0.mk (blk_drew K3.out)
      have HOd := Aside0.mk (Kd.R_drew HO.out)
      have HBd := Aside0.mk (below_drew1 HB.out)
      have HSd := Aside0.mk HBd.out.size
      have G1D := Aside0.mk (blk_lt K1d.out)
      have G2D := Aside0.mk (blk_lt K2d.out)
      have G3D := Aside0.mk (blk_lt K3d.out)
      have NLE : Aside0 ((((l13.take j).map to90).length + 1) * 40 ≤ 140737488355328) := ⟨by rw [List.length_map, List.length_take]; have := HL.out; omega⟩
      clear hy0 hy1 hy2 hy3
      go_upto_region 5 with (fail)
      refine start_ (n := 11) (S := fun w' => w'.cell? ⟨g3, 13, none⟩ = some v ∧ w'.cell? ⟨g1, 13, none⟩ = some (.slice (some ad) l13.length c13) ∧ w'.cell? (ad.add (j * 4)) = some (.int .u64 f0) ∧ w'.cell? ⟨(ad.add (j * 4)).block, (ad.add (j * 4)).off + 1, none⟩ = some (.int .i64 f1) ∧ w'.cell? ⟨(ad.add (j * 4)).block, (ad.add (j * 4)).off + 2, none⟩ = some (.int .u64 f2) ∧ w'.cell? ⟨(ad.add (j * 4)).block, (ad.add (j * 4)).off + 3, none⟩ = some (.string f3)) (ds := [8, 10]) #[false, false, false, false, false, false, false, false, false, false, false] (by kernel_rfl) rfl rfl ⟨(blk_cell K3d.out 13).trans rfl, (blk_cell K1d.out 13).trans rfl, E0.out, E1.out, E2.out, E3.out⟩ (fun hHeld => ?_)
      generalize wr.drew = wd at K1d K2d K3d HOd HBd HSd G1D G2D G3D E0 E1 E2 E3 hHeld ⊢
      have BA : ∀ o, Below wd.heap.size wd (wd.alloc o) := fun o => below_alloc (Below.refl _ _) o
      have EB : ∀ {w5 : World}, Below wd.heap.size wd w5 → (w5.cell? (ad.add (j * 4)) = some (.int .u64 f0) ∧ w5.cell? ⟨(ad.add (j * 4)).block, (ad.add (j * 4)).off + 1, none⟩ = some (.int .i64 f1) ∧ w5.cell? ⟨(ad.add (j * 4)).block, (ad.add (j * 4)).off + 2, none⟩ = some (.int .u64 f2) ∧ w5.cell? ⟨(ad.add (j * 4)).block, (ad.add (j * 4)).off + 3, none⟩ = some (.string f3)) := fun hb => ⟨(hb.cell (World.block_lt_of_cell? wd _ E0.out)).trans E0.out, (hb.cell (World.block_lt_of_cell? wd _ E1.out)).trans E1.out, (hb.cell (World.block_lt_of_cell? wd _ E2.out)).trans E2.out, (hb.cell (World.block_lt_of_cell? wd _ E3.out)).trans E3.out⟩
      have N1V := Aside0.mk (show some g1 ≠ v.ownBlock from fun e => absurd (own_typed' HOd.out g1 e.symm K1d.out) (by decide))
      have N2V := Aside0.mk (show some g2 ≠ v.ownBlock from fun e => absurd (own_typed' HOd.out g2 e.symm K2d.out) (by decide))
      refine pure_ (i := 0) (N := some 39) (v := ?_) (a' := ?_) #[true, false, false, false, false, false, false, false, false, false, false] rfl rfl (by kernel_rfl) (fun _ _ _ h => h) (Or.inl ⟨by rfl, ?_⟩) ?_ ?_
      rotate_left
      · intro w'
        go_simp
        first | done | with_reducible rfl | rfl | (simp [Instr.field, go_sem]; rfl)
      rotate_left
      · simp only [Act.put, List.setIfInBounds_toArray, List.set_cons_zero, List.set_cons_succ, i64_w, i32_w]
        rfl
      refine pure_ (i := 2) (N := some 41) (v := ?_) (a' := ?_) #[true, false, true, false, false, false, false, false, false, false, false] rfl rfl (by kernel_rfl) (fun _ _ _ h => h) (Or.inl ⟨by rfl, ?_⟩) ?_ ?_
      rotate_left
      · intro w'
        go_simp
        first | done | with_reducible rfl | rfl | (simp [Instr.field, go_sem]; rfl)
      rotate_left
      · simp only [Act.put, List.setIfInBounds_toArray, List.set_cons_zero, List.set_cons_succ, i64_w, i32_w]
        rfl
      refine pure_ (i := 4) (N := some 43) (v := ?_) (a' := ?_) #[true, false, true, false, true, false, false, false, false, false, false] rfl rfl (by kernel_rfl) (fun _ _ _ h => h) (Or.inl ⟨by rfl, ?_⟩) ?_ ?_
      rotate_left
      · intro w'
        go_simp
        first | done | with_reducible rfl | rfl | (simp [Instr.field, go_sem]; rfl)
      rotate_left
      · simp only [Act.put, List.setIfInBounds_toArray, List.set_cons_zero, List.set_cons_succ, i64_w, i32_w]
        rfl
      refine take_ (i := 1) (N := some 40) (v := ?_) (a' := ?_) #[true, true, true, false, true, false, false, false, false, false, false] rfl rfl (by kernel_rfl) (fun _ _ _ h => h) (Or.inl ⟨by rfl, ?_⟩) hHeld ?_ ?_
      rotate_left
      · rintro w' ⟨s0, s1, s2, s3, s4, s5⟩
        go_simp
        first | done | with_reducible rfl | rfl | (simp [Instr.field, go_sem]; rfl)
      rotate_left
      · simp only [Act.put, List.setIfInBounds_toArray, List.set_cons_zero, List.set_cons_succ, i64_w, i32_w]
        rfl
      refine take_ (i := 3) (N := some 42) (v := ?_) (a' := ?_) #[true, true, true, true, true, false, false, false, false, false, false] rfl rfl (by kernel_rfl) (fun _ _ _ h => h) (Or.inl ⟨by rfl, ?_⟩) hHeld ?_ ?_
      rotate_left
      · rintro w' ⟨s0, s1, s2, s3, s4, s5⟩
        go_simp
        first | done | with_reducible rfl | rfl | (simp [Instr.field, go_sem]; rfl)
      rotate_left
      · simp only [Act.put, List.setIfInBounds_toArray, List.set_cons_zero, List.set_cons_succ, i64_w, i32_w]
        rfl
      refine pure_ (i := 5) (N := some 44) (v := ?_) (a' := ?_) #[true, true, true, true, true, true, false, false, false, false, false] rfl rfl (by kernel_rfl) (fun _ _ _ h => h) (Or.inl ⟨by rfl, ?_⟩) ?_ ?_
      rotate_left
      · intro w'
        go_simp
        first | done | with_reducible rfl | rfl | (simp [Instr.field, go_sem]; rfl)
      rotate_left
      · simp only [Act.put, List.setIfInBounds_toArray, List.set_cons_zero, List.set_cons_succ, i64_w, i32_w]
        rfl
      refine take_ (i := 6) (N := some 45) (v := ?_) (a' := ?_) #[true, true, true, true, true, true, true, false, false, false, false] rfl rfl (by kernel_rfl) (fun _ _ _ h => h) (Or.inl ⟨by rfl, ?_⟩) hHeld ?_ ?_
      rotate_left
      · rintro w' ⟨s0, s1, s2, s3, s4, s5⟩
        go_simp
        first | done | with_reducible rfl | rfl | (simp [Instr.field, go_sem]; rfl)
      rotate_left
      · simp only [Act.put, List.setIfInBounds_toArray, List.set_cons_zero, List.set_cons_succ, i64_w, i32_w]
        rfl
      refine one_ (i := 7) (N := some 46) #[true, true, true, true, true, true, true, true, false, false, false] rfl rfl (by kernel_rfl) (by decide) (fun K hK => ?_)
      refine value_ (w1 := ?_) (v := ?_) (by rfl) rfl ?_ ?_
      rotate_left 2
      · go_simp
        constructor
        · rfl
        · rfl
      refine hK _ _ ⟨(blk_cell (blk_below K3d.out (BA _)) 13).trans rfl, (blk_cell (blk_below K1d.out (BA _)) 13).trans rfl, EB (BA _)⟩ (fun hHeld => ?_)
      clear hK K
      refine norm_ (a' := ?_) ?_ ?_
      rotate_left
      · show Act.put _ (some 46) _ = _
        simp only [Act.put, List.setIfInBounds_toArray, List.set_cons_zero, List.set_cons_succ, i64_w, i32_w]
        rfl
      refine last_ (i := 8) (N := some 47) #[true, true, true, true, true, true, true, true, true, false, false] rfl rfl (by kernel_rfl) (by decide) (fun K hK => ?_)
      refine Kd.R_append_step k90 (w0 := wd) w.heap.size (by rfl) (.tmp 40) (.tmp 46) 36 90 (.agg #[(.int .u64 0), (.int .i64 0), (.int .u64 0), (.string ⟨#[]⟩)]) 40 rfl Try.underlying36 info90 rfl (by decide) (by omega) v ((l13.take j).map to90) ⟨f0, ⟨f1, f2, f3⟩⟩ [.int .u64 f0, .int .i64 f1, .int .u64 f2, .string f3] (fun b => b ≠ g3) (fun _ => False) rfl rfl ?aP (fun _ hk => hk.elim) ?aF ?aO (Below.refl _ _) ?aS ?aL ?_
      case aP => exact k90_mkM _ _ _ ⟨f0, ⟨f1, f2, f3⟩⟩
      case aF => exact fun b hb => by have := G3D.out; omega
      case aO => exact HOd.out
      case aS => exact HSd.out
      case aL => exact NLE.out
      intro v1 w5 ho5 hb5 hg5 hat5
      rw [show (l13.take j).map to90 ++ [(⟨f0, ⟨f1, f2, f3⟩⟩ : S90)] = (l13.take (j + 1)).map to90 from HTK.out.symm] at ho5
      obtain ⟨r1, hr1⟩ : ∃ r1, r1 = (l13.take (j + 1)).map to90 := ⟨_, rfl⟩
      rw [← hr1] at ho5
      have HR1 := Aside0.mk hr1
      clear hr1
      obtain ⟨A1, c1, rfl⟩ := Kd.R_slice ho5
      have K3e := Aside0.mk ((hg5.block g3 G3D.out (by intro e; exact absurd rfl (HOd.out.1 g3 e.symm))).trans K3d.out)
      have K1e := Aside0.mk ((hg5.block g1 G1D.out (by intro e; exact N1V.out e)).trans K1d.out)
      have K2e := Aside0.mk ((hg5.block g2 G2D.out (by intro e; exact N2V.out e)).trans K2d.out)
      have HO5 := Aside0.mk ho5
      have HB5 := Aside0.mk hb5
      clear ho5 hb5 hg5 hat5
      refine hK _ _ ?_
      clear hK K
      refine norm_ (a' := ?_) ?_ ?_
      rotate_left
      · show Act.put _ (some 47) _ = _
        simp only [Act.put, List.setIfInBounds_toArray, List.set_cons_zero, List.set_cons_succ, i64_w, i32_w]
        rfl
      refine pure_ (i := 9) (N := some 48) (v := ?_) (a' := ?_) #[true, true, true, true, true, true, true, true, true, true, false] rfl rfl (by kernel_rfl) (fun _ _ _ h => h) (Or.inl ⟨by rfl, ?_⟩) ?_ ?_
      rotate_left
      · intro w'
        go_simp
        first | done | with_reducible rfl | rfl | (simp [Instr.field, go_sem]; rfl)
      rotate_left
      · simp only [Act.put, List.setIfInBounds_toArray, List.set_cons_zero, List.set_cons_succ, i64_w, i32_w]
        rfl
      refine last_ (i := 10) (N := none) #[true, true, true, true, true, true, true, true, true, true, true] rfl rfl (by kernel_rfl) (by decide) (fun K hK => ?_)
      have z3 := (blk_cell K3e.out 13).trans rfl
      have zf3 := blk_frozen K3e.out 13
      refine skip_ (w1 := ?_) (by rfl) rfl ?_ ?_
      rotate_left
      · go_simp
        rfl
      refine hK _ _ ?_
      clear hK K
      refine done_ (by kernel_rfl) ?_
      have Q3 : Aside0 ((w5.setCell ⟨g3, 13, none⟩ (.slice A1 r1.length c1)).heap[g3]? = some (.cells #[.int .i64 a0, .int .i64 a1, .int .i64 a2, .int .u64 a3, .int .i64 a4, .slice A5 l5.length c5, .int .u64 a6, .int .u64 a7, .int .u64 a8, .int .u64 a9, .int .u64 a10, .int .u64 a11, .int .u64 a12, .slice A1 r1.length c1, .slice A14 l14.length c14, .float .f64 a15] 38 (0, 0))) := ⟨blk_put K3e.out 13 (.slice A1 r1.length c1) rfl⟩
      go_wp2
      go_roundw
      case rel => exact ⟨j + 1, .slice A1 r1.length c1, by go_num, ⟨hlt⟩, ⟨blk_far (p := ⟨g3, 13, none⟩) K1e.out N13.out _⟩, ⟨blk_far (p := ⟨g3, 13, none⟩) K2e.out N23.out _⟩, Q3, ⟨by rw [← HR1.out]; exact Kd.R_far (p := ⟨g3, 13, none⟩) HO5.out (fun _ h => h) _⟩, ⟨below_set (HBd.out.trans HB5.out) L3.out⟩⟩
      case measure => have := HL.out; simp [intOf]; omega
    · obtain rfl : j = l13.length := by have := hj.out; omega
      have HO1 : Aside0 (Kd.R k90 90 wr w.heap.size (fun b => b ≠ g3) v (l13.map to90)) := ⟨by have h := HO.out; rwa [List.take_length] at h⟩
      clear HO
      obtain ⟨r1, hr1⟩ : ∃ r1, r1 = l13.map to90 := ⟨_, rfl⟩
      rw [← hr1] at HO1
      obtain ⟨A9, c9, rfl⟩ := Kd.R_slice HO1.out
      have HR1 := Aside0.mk hr1
      clear hr1
      have y := fun i => blk_cell K3.out i
      go_wp2_with ((with_reducible refine gate_store (t := 38) (p := 2) rfl ?_); go_loud (refine wpList_store_row rfl 38 (.tmp 2) (.tmp 49) rfl g2 #[.int .i64 a0, .int .i64 a1, .int .i64 a2, .int .u64 a3, .int .i64 a4, .slice A5 l5.length c5, .int .u64 a6, .int .u64 a7, .int .u64 a8, .int .u64 a9, .int .u64 a10, .int .u64 a11, .int .u64 a12, .slice A9 r1.length c9, .slice A14 l14.length c14, .float .f64 a15] rfl rfl 38 #[.int .i64 0, .int .i64 0, .int .i64 0, .int .u64 0, .int .i64 0, .slice none 0 0, .int .u64 0, .int .u64 0, .int .u64 0, .int .u64 0, .int .u64 0, .int .u64 0, .int .u64 0, .slice none 0 0, .slice none 0 0, .float .f64 0] K2.out si38 rfl (one_L _ _ _ _ _ _ _ _ _ _ _ _ _ _ _ _ _ _ _ _ _ _) ?_); have K2e := Aside0.mk (setRow_heap wr g2 #[.int .i64 0, .int .i64 0, .int .i64 0, .int .u64 0, .int .i64 0, .slice none 0 0, .int .u64 0, .int .u64 0, .int .u64 0, .int .u64 0, .int .u64 0, .int .u64 0, .int .u64 0, .slice none 0 0, .slice none 0 0, .float .f64 0] #[.int .i64 a0, .int .i64 a1, .int .i64 a2, .int .u64 a3, .int .i64 a4, .slice A5 l5.length c5, .int .u64 a6, .int .u64 a7, .int .u64 a8, .int .u64 a9, .int .u64 a10, .int .u64 a11, .int .u64 a12, .slice A9 r1.length c9, .slice A14 l14.length c14, .float .f64 a15] 38 (0, 0) K2.out); have HB2 := Aside0.mk (below_setRow HB.out L2.out #[.int .i64 a0, .int .i64 a1, .int .i64 a2, .int .u64 a3, .int .i64 a4, .slice A5 l5.length c5, .int .u64 a6, .int .u64 a7, .int .u64 a8, .int .u64 a9, .int .u64 a10, .int .u64 a11, .int .u64 a12, .slice A9 r1.length c9, .slice A14 l14.length c14, .float .f64 a15]); have HO2 := Aside0.mk (row_step38 (Kd.R_mono HO1.out (fun _ _ => trivial)) K2.out (by decide) #[.int .i64 a0, .int .i64 a1, .int .i64 a2, .int .u64 a3, .int .i64 a4, .slice A5 l5.length c5, .int .u64 a6, .int .u64 a7, .int .u64 a8, .int .u64 a9, .int .u64 a10, .int .u64 a11, .int .u64 a12, .slice A9 r1.length c9, .slice A14 l14.length c14, .float .f64 a15]); generalize World.setRow wr g2 _ = w9 at K2e HB2 HO2 ⊢; clear x y K1 K2 K3 HO1 HB)
      refine bodyPost_ret (v := .agg #[.int .i64 a0, .int .i64 a1, .int .i64 a2, .int .u64 a3, .int .i64 a4, .slice A5 l5.length c5, .int .u64 a6, .int .u64 a7, .int .u64 a8, .int .u64 a9, .int .u64 a10, .int .u64 a11, .int .u64 a12, .slice A9 r1.length c9, .slice A14 l14.length c14, .float .f64 a15]) (results_cell_row (fn := Try.f13) (p := 2) (ty := 38) (by kernel_rfl) _ _ g2 38 #[.int .i64 a0, .int .i64 a1, .int .i64 a2, .int .u64 a3, .int .i64 a4, .slice A5 l5.length c5, .int .u64 a6, .int .u64 a7, .int .u64 a8, .int .u64 a9, .int .u64 a10, .int .u64 a11, .int .u64 a12, .slice A9 r1.length c9, .slice A14 l14.length c14, .float .f64 a15] (0, 0) _ rfl K2e.out Try.underlying38 rfl si38) rfl ?_
      exact ⟨_, rfl, by rw [← HR1.out]; exact HO2.out, HB2.out⟩
end Go.Proofs.Ytondgoabnmgcaaa.B
end
section
/- By hand: Decode's answer in the print's form, and 'shown': a letter is bytes, and back. -/
namespace Go.Proofs.Ytondgoabnmgcaaa.B
open Go.RowKit Go.Proofs.YtondgoabnmgcaaaW.PrintWords Go.Proofs.YtondgoabnmgcaaaW.PrintLast Go.Proofs.YtondgoabnmgcaaaW.PrintMore
open Go.Proofs.YtondgoabnmgcaaaO.R (rdv rbits le)
set_option linter.unusedSimpArgs false
set_option linter.unusedVariables false
theorem C_nil {α : Type} (d : Kd α) (w : World) : Kd.C d w none ([] : List α).length [] := ⟨rfl, by simp, fun h0 => absurd h0 (by simp)⟩
def shownX : S32 := ⟨3, 1, 2, 9, 0, [], ⟨0, 0⟩, 0, 0, ⟨0, 0⟩, 0, [], [], 0⟩
theorem shown_may : mayL 3 1 2 0 [] [] [] 0 = true := by kernel_rfl
theorem shown_okL : okL 3 1 2 9 0 [] 0 0 0 0 0 0 0 [] [] 0 = true := by kernel_rfl
theorem shown_dec : decP (strOfNums (encL 3 1 2 9 0 [] 0 0 0 0 0 0 0 [] [] 0)) = .ok shownX := by kernel_rfl
theorem shown_size : (strOfNums (encL 3 1 2 9 0 [] 0 0 0 0 0 0 0 [] [] 0)).size = 79 := by kernel_rfl
theorem shown_open : Go.Proofs.YtondgoabnmgcaaaG.B.guard_Open.f (sealS (strOfNums (encL 3 1 2 9 0 [] 0 0 0 0 0 0 0 [] [] 0))) = some (strOfNums (encL 3 1 2 9 0 [] 0 0 0 0 0 0 0 [] [] 0), 0) :=
  Go.Proofs.YtondgoabnmgcaaaG.Pure.open_seal _ (by rw [shown_size]; decide)
def flatL (x : S32) (er : Int) : Int × Int × Int × Int × Int × List S70 × Int × Int × Int × Int × Int × Int × Int × List S53 × List S77 × Nat × Int :=
  (x.f0, x.f1, x.f2, x.f3, x.f4, x.f5, x.f6.f0, x.f6.f1, x.f7, x.f8, x.f9.f0, x.f9.f1, x.f10, x.f11, x.f12, x.f13, er)
def flatD : Except Int S32 → Int × Int × Int × Int × Int × List S70 × Int × Int × Int × Int × Int × Int × Int × List S53 × List S77 × Nat × Int
  | .error er => flatL z32 er
  | .ok x => flatL x 0
/-- what a text is decoded to -/
def decT (t : ByteArray) : Option (Except Int S32) := (Go.Proofs.YtondgoabnmgcaaaG.B.guard_Open.f t).bind fun r => if r.2 = 0 then (if r.1.size < 4611686018427387904 then some (decP r.1) else none) else some (.error r.2)
def letter_Decode.f (a0 : ByteArray) : Option (Int × Int × Int × Int × Int × List S70 × Int × Int × Int × Int × Int × Int × Int × List S53 × List S77 × Nat × Int) := (decT a0).map flatD
theorem decT_at (t : ByteArray) (D : Except Int S32) (w : World) (h : decT t = some D) : Calls Try.prog 10 #[.string t] w (DPost D w) := by
  unfold decT at h
  obtain ⟨⟨s, er⟩, h1, h2⟩ := Option.bind_eq_some_iff.1 h
  dsimp only at h2
  by_cases he : er = 0
  · subst he
    rw [if_pos rfl] at h2
    by_cases hs : s.size < 4611686018427387904
    · rw [if_pos hs] at h2
      obtain rfl := Option.some.inj h2
      exact decode_walk w t s h1 hs
    · rw [if_neg hs] at h2; cases h2
  · rw [if_neg he] at h2
    obtain rfl := Option.some.inj h2
    exact decode_shut w t s er h1 he
theorem letter_Decode.calls (a0 : ByteArray) (r0 r1 r2 r3 r4 : Int) (r5 : List S70) (r6 r7 r8 r9 r10 r11 r12 : Int) (r13 : List S53) (r14 : List S77) (r15 : Nat) (r16 : Int) (w : World)
    (h : letter_Decode.f a0 = some (r0, r1, r2, r3, r4, r5, r6, r7, r8, r9, r10, r11, r12, r13, r14, r15, r16)) :
    Calls Try.prog 10 #[.string a0] w fun e w' => ∃ v5 v13 v14, e = .returned (.tuple #[.agg #[.int .i64 r0, .int .i64 r1, .int .i64 r2, .int .u64 r3, .int .i64 r4, v5, .int .u64 r6, .int .u64 r7, .int .u64 r8, .int .u64 r9, .int .u64 r10, .int .u64 r11, .int .u64 r12, v13, v14, .float .f64 r15], .int .i64 r16]) ∧
      Kd.R k70 70 w' w.heap.size (fun _ => True) v5 r5 ∧ Kd.R k53 53 w' w.heap.size (fun _ => True) v13 r13 ∧ Kd.R k77 77 w' w.heap.size (fun _ => True) v14 r14 ∧ Below w.heap.size w w' := by
  obtain ⟨D, hD, hf⟩ := Option.map_eq_some_iff.1 h
  refine (decT_at a0 D w hD).mono ?_
  rintro e w' ⟨hb, hh⟩
  cases D with
  | error er =>
    simp only [flatD, flatL, Prod.mk.injEq] at hf
    obtain ⟨rfl, rfl, rfl, rfl, rfl, rfl, rfl, rfl, rfl, rfl, rfl, rfl, rfl, rfl, rfl, rfl, rfl⟩ := hf
    exact ⟨_, _, _, hh, Kd.R_nil _ _ _ _ _, Kd.R_nil _ _ _ _ _, Kd.R_nil _ _ _ _ _, hb⟩
  | ok x =>
    simp only [flatD, flatL, Prod.mk.injEq] at hf
    obtain ⟨rfl, rfl, rfl, rfl, rfl, rfl, rfl, rfl, rfl, rfl, rfl, rfl, rfl, rfl, rfl, rfl, rfl⟩ := hf
    obtain ⟨v5, v13, v14, rfl, r5, r13, r14⟩ := hh
    exact ⟨v5, v13, v14, rfl, r5, r13, r14, hb⟩
def conventiclelaw15_shown.f : Option Bool := some true
set_option maxRecDepth 100000 in
set_option maxHeartbeats 2000000 in
theorem conventiclelaw15_shown.calls (r : Bool) (w : World) (h : conventiclelaw15_shown.f = some r) :
    Calls Try.prog 8 #[] w fun e w' => e = .returned (.bool r) ∧ Below w.heap.size w w' := by
  obtain rfl := Option.some.inj h
  clear h
  have HE := fun w : World => Aside0.mk (encode_ok 3 1 2 9 0 none 0 [] 0 0 0 0 0 0 0 none 0 [] none 0 [] 0 w (C_nil _ _) (Nat.le_refl _) (C_nil _ _) (Nat.le_refl _) (C_nil _ _) (Nat.le_refl _) shown_may shown_okL)
  have HD := Aside0.mk shown_dec
  have HO := Aside0.mk shown_open
  have HSZ := Aside0.mk shown_size
  generalize strOfNums (encL 3 1 2 9 0 [] 0 0 0 0 0 0 0 [] [] 0) = s at HE HD HO HSZ
  obtain ⟨t, ht⟩ : ∃ t, sealS s = t := ⟨_, rfl⟩
  rw [ht] at HE HO
  clear ht
  go_enter Try.func8, Try.ntmps8
  go_wp2_with (first
    | (go_at_call 14; refine ((HE _).out).mono ?_; rintro e w1 ⟨rfl, hb⟩; have B1 := Aside0.mk hb; clear hb)
    | (go_at_call 10; refine (decode_walk _ t s HO.out (by rw [HSZ.out]; decide)).mono ?_; rintro e w2 hh; rw [HD.out] at hh; obtain ⟨hb, v5, v13, v14, rfl, r5, r13, r14⟩ := hh; obtain ⟨A5, c5, rfl⟩ := Kd.R_slice r5; obtain ⟨A13, c13, rfl⟩ := Kd.R_slice r13; obtain ⟨A14, c14, rfl⟩ := Kd.R_slice r14; have hc : cellsL shownX (.slice A5 shownX.f5.length c5) (.slice A13 shownX.f11.length c13) (.slice A14 shownX.f12.length c14) = #[.int .i64 3, .int .i64 1, .int .i64 2, .int .u64 9, .int .i64 0, .slice A5 0 c5, .int .u64 0, .int .u64 0, .int .u64 0, .int .u64 0, .int .u64 0, .int .u64 0, .int .u64 0, .slice A13 0 c13, .slice A14 0 c14, .float .f64 0] := rfl; rw [hc]; clear hc; have B2 := Aside0.mk (below_step B1.out hb); clear hb r5 r13 r14)
    | ((with_reducible refine gate_dst (N := 3) rfl ?_); refine box_event ?hg (N := 3) ?hd (cs := #[.int .i64 0, .int .i64 0, .int .i64 0, .int .u64 0, .int .i64 0, .slice none 0 0, .int .u64 0, .int .u64 0, .int .u64 0, .int .u64 0, .int .u64 0, .int .u64 0, .int .u64 0, .slice none 0 0, .slice none 0 0, .float .f64 0]) (t := 32) ?hr ?_; (case hd => rfl); (case hg => rfl); (case hr => first | (go_simp; done) | (go_simp; rfl)); intro g3 hg_ w3 hb_ hB_; have K3 := Aside0.mk hb_; have G3 := Aside0.mk (show w.heap.size ≤ g3 by rw [hg_]; exact B2.out.size); have B3 := Aside0.mk (below_step B2.out hB_); clear hg_ hb_ hB_)
    | ((with_reducible refine gate_store (t := 32) (p := 3) rfl ?_); go_loud (refine wpList_store_row rfl 32 (.tmp 3) (.tmp 13) rfl g3 #[.int .i64 3, .int .i64 1, .int .i64 2, .int .u64 9, .int .i64 0, .slice A5 0 c5, .int .u64 0, .int .u64 0, .int .u64 0, .int .u64 0, .int .u64 0, .int .u64 0, .int .u64 0, .slice A13 0 c13, .slice A14 0 c14, .float .f64 0] rfl rfl 32 #[.int .i64 0, .int .i64 0, .int .i64 0, .int .u64 0, .int .i64 0, .slice none 0 0, .int .u64 0, .int .u64 0, .int .u64 0, .int .u64 0, .int .u64 0, .int .u64 0, .int .u64 0, .slice none 0 0, .slice none 0 0, .float .f64 0] K3.out si32 rfl (one_L _ _ _ _ _ _ _ _ _ _ _ _ _ _ _ _ _ _ _ _ _ _) ?_); have RK := Aside0.mk (setRow_heap w3 g3 #[.int .i64 0, .int .i64 0, .int .i64 0, .int .u64 0, .int .i64 0, .slice none 0 0, .int .u64 0, .int .u64 0, .int .u64 0, .int .u64 0, .int .u64 0, .int .u64 0, .int .u64 0, .slice none 0 0, .slice none 0 0, .float .f64 0] #[.int .i64 3, .int .i64 1, .int .i64 2, .int .u64 9, .int .i64 0, .slice A5 0 c5, .int .u64 0, .int .u64 0, .int .u64 0, .int .u64 0, .int .u64 0, .int .u64 0, .int .u64 0, .slice A13 0 c13, .slice A14 0 c14, .float .f64 0] 32 (0, 0) K3.out); have RB := Aside0.mk (below_setRow B3.out G3.out #[.int .i64 3, .int .i64 1, .int .i64 2, .int .u64 9, .int .i64 0, .slice A5 0 c5, .int .u64 0, .int .u64 0, .int .u64 0, .int .u64 0, .int .u64 0, .int .u64 0, .int .u64 0, .slice A13 0 c13, .slice A14 0 c14, .float .f64 0]); generalize World.setRow w3 g3 _ = w4 at RK RB ⊢; have z := fun j => blk_cell RK.out j))
  go_ret
  exact ⟨rfl, RB.out⟩
end Go.Proofs.Ytondgoabnmgcaaa.B
end
section
/- By hand: the walk of LetterMay. -/
namespace Go.Proofs.Ytondgoabnmgcaaa.B
open Go.RowKit Go.Proofs.YtondgoabnmgcaaaW.PrintWords Go.Proofs.YtondgoabnmgcaaaW.PrintLast Go.Proofs.YtondgoabnmgcaaaW.PrintMore
open Go.Proofs.YtondgoabnmgcaaaO.R (le le_length rbits ord)
set_option linter.unusedSimpArgs false
set_option linter.unusedVariables false
theorem ge_self (x : Nat) (h : geF x = true) : (FloatKind.f64.format.order x x == some Ordering.eq) = true := by
  unfold geF at h
  rw [ord] at h
  by_cases hn : Go.Proofs.YtondgoabnmgcaaaO.Flt.nan x = true ∨ Go.Proofs.YtondgoabnmgcaaaO.Flt.nan 0 = true
  · rw [if_pos hn] at h; cases h
  · rw [ord, if_neg (by rintro (h | h) <;> exact hn (.inl h))]
    simp
end Go.Proofs.Ytondgoabnmgcaaa.B
end
section
/- Plain: what the reference's May answers is what mayL says. -/
namespace Go.Proofs.Ytondgoabnmgcaaa.B
open Go.RowKit Go.Proofs.YtondgoabnmgcaaaW.PrintWords Go.Proofs.YtondgoabnmgcaaaW.PrintLast Go.Proofs.YtondgoabnmgcaaaW.PrintMore
open Go.Proofs.YtondgoabnmgcaaaO.R (ord)
set_option linter.unusedVariables false
def from90 (q : S90) : S53 := ⟨q.f0, q.f1⟩
def wfX (l : List S77) : Prop := ∀ x ∈ l, 0 ≤ x.f0 ∧ x.f0 < 18446744073709551616 ∧ 0 ≤ x.f1 ∧ x.f1 < 18446744073709551616
theorem ref12_l0 (l : List S77) (hl : l.length ≤ 4611686018427387904) (hwf : wfX l) : ∀ (n j k : Nat) (least : Int), j + n = l.length → n < k →
    (least = if h : 0 < j ∧ j - 1 < l.length then IntKind.u64.wrap (l[j - 1].f1 + 2) else 0) → (∀ h : 0 < j ∧ j - 1 < l.length, l[j - 1].f1 ≠ 18446744073709551615) →
    conventicleref12_May.l0 k l (j : Int) = some (sepL least (j == 0) (l.drop j)) := by
  intro n
  induction n with
  | zero =>
    intro j k least hj hk _ _
    obtain ⟨k, rfl⟩ : ∃ m, k = m + 1 := ⟨k - 1, by omega⟩
    rw [conventicleref12_May.l0, if_neg (by omega), List.drop_eq_nil_of_le (by omega)]
    rfl
  | succ n ih =>
    intro j k least hj hk hle hmx
    obtain ⟨k, rfl⟩ : ∃ m, k = m + 1 := ⟨k - 1, by omega⟩
    have hlt : j < l.length := by omega
    rw [conventicleref12_May.l0, if_pos (by omega), if_pos (by omega), rd77 l j hlt, List.drop_eq_getElem_cons hlt, sepL]
    have hx := hwf l[j] (List.getElem_mem hlt)
    have hw : wrap64 ((j : Int) + 1) = ((j + 1 : Nat) : Int) := by unfold wrap64; omega
    have hr : l[j].f1 ≠ 18446744073709551615 → conventicleref12_May.l0 k l ((j + 1 : Nat) : Int) = some (sepL (IntKind.u64.wrap (l[j].f1 + 2)) (j + 1 == 0) (l.drop (j + 1))) := fun hn => ih (j + 1) k (IntKind.u64.wrap (l[j].f1 + 2)) (by omega) (by omega) (by rw [dif_pos ⟨by omega, by simpa using hlt⟩]; rfl) (fun _ => hn)
    rw [hw]
    have e1 : (j + 1 == 0) = false := by simp
    rw [e1] at hr
    generalize hX : l[j] = x at hx hr ⊢
    by_cases h2 : x.f0 > x.f1
    · rw [if_pos h2, if_pos h2]
      by_cases h1 : x.f0 < least
      · rw [if_pos h1]
      · rw [if_neg h1]
    rw [if_neg h2, if_neg h2]
    by_cases h3 : x.f1 = 18446744073709551615
    · rw [if_pos h3, if_pos h3]
      by_cases h1 : x.f0 < least
      · rw [if_pos h1]
      · rw [if_neg h1]
    rw [if_neg h3, if_neg h3]
    have hr := hr h3
    by_cases h4 : j = 0
    · subst h4
      rw [dif_neg (by omega)] at hle
      subst hle
      rw [if_neg (by omega), if_neg (by omega), if_neg (by simp), hr]
    · have hj1 : j - 1 < l.length := by omega
      have hjj : 0 < j ∧ j - 1 < l.length := ⟨by omega, hj1⟩
      rw [dif_pos hjj] at hle
      have hmx := hmx hjj
      have hp := hwf l[j - 1] (List.getElem_mem hj1)
      have hw1 : wrap64 ((j : Int) - 1) = ((j - 1 : Nat) : Int) := by unfold wrap64; omega
      rw [if_pos (by omega), hw1, if_pos (by omega), if_pos (by omega), rd77 l (j - 1) hj1]
      generalize l[j - 1] = y at hp hmx hle ⊢
      have hwy : IntKind.u64.wrap (y.f1 + 2) = (y.f1 + 2) % 18446744073709551616 := rfl
      have hwz : IntKind.u64.wrap (y.f1 + 1) = (y.f1 + 1) % 18446744073709551616 := rfl
      rw [hwy] at hle
      rw [hwz]
      have ejf : (j == 0) = false := by simpa using h4
      rw [ejf]
      by_cases h5 : x.f0 ≤ y.f1
      · rw [if_pos h5]
        by_cases h1 : x.f0 < least
        · rw [if_pos h1]
        · rw [if_neg h1, if_pos ⟨rfl, by omega⟩]
      rw [if_neg h5]
      by_cases h6 : x.f0 = (y.f1 + 1) % 18446744073709551616
      · rw [if_pos h6]
        by_cases h1 : x.f0 < least
        · rw [if_pos h1]
        · rw [if_neg h1, if_pos ⟨rfl, by omega⟩]
      rw [if_neg h6, if_neg (by omega), if_neg (by rintro ⟨_, h⟩; omega), hr]
theorem ref12_is (l : List S77) (hl : l.length ≤ 4611686018427387904) (hwf : wfX l) (k : Nat) (hk : l.length < k) : conventicleref12_May.f k l = some (sepS l) := by
  have := ref12_l0 l hl hwf l.length 0 k 0 (by omega) hk rfl (fun h => by omega)
  exact this
theorem rd70' (l : List S70) (j : Nat) (h : j < l.length) : rd_T70 l (j : Int) = l[j] := by
  unfold rd_T70
  rw [Int.toNat_natCast, List.getD_eq_getElem?_getD, List.getElem?_eq_getElem h]; rfl
theorem rd90' (l : List S90) (j : Nat) (h : j < l.length) : rd_T90 l (j : Int) = l[j] := by
  unfold rd_T90
  rw [Int.toNat_natCast, List.getD_eq_getElem?_getD, List.getElem?_eq_getElem h]; rfl
theorem ref06_is (a b c : Int) : conventicleref06_May.f a b c = some (mayU ⟨a, b, c⟩) := by
  unfold conventicleref06_May.f mayU
  simp only [ge_iff_le]
  by_cases h1 : 0 ≤ a <;> by_cases h2 : a < 64 <;> by_cases h3 : 0 ≤ c <;> simp [h1, h2, h3]
theorem refnode_is (n : Int) : conventicleref15_node.f n = some (nodeB n) := by
  unfold conventicleref15_node.f nodeB
  simp only [ge_iff_le]
  by_cases h1 : 0 ≤ n <;> simp [h1]
theorem negF_is (x : Nat) : math_Signbit.f x = some (negF x) := rfl
section
variable (a0 a1 a2 a3 a4 : Int) (l5 : List S70) (a6 a7 a8 a9 a10 a11 a12 : Int) (l13 : List S90) (l14 : List S77) (a15 : Nat)
theorem ref15_l1 (hl : l13.length ≤ 4611686018427387904) : ∀ (n j k : Nat), j + n = l13.length → n < k →
    conventicleref15_May.l1 k (j : Int) a0 a1 a2 a3 a4 l5 a6 a7 a8 a9 a10 a11 a12 l13 l14 a15 = some (((l13.drop j).map from90).all mayP) := by
  intro n
  induction n with
  | zero =>
    intro j k hj hk
    obtain ⟨k, rfl⟩ : ∃ m, k = m + 1 := ⟨k - 1, by omega⟩
    rw [conventicleref15_May.l1, if_neg (by omega), List.drop_eq_nil_of_le (by omega)]
    rfl
  | succ n ih =>
    intro j k hj hk
    obtain ⟨k, rfl⟩ : ∃ m, k = m + 1 := ⟨k - 1, by omega⟩
    have hlt : j < l13.length := by omega
    have hw : wrap64 ((j : Int) + 1) = ((j + 1 : Nat) : Int) := by unfold wrap64; omega
    rw [conventicleref15_May.l1, if_pos (by omega), if_pos (by omega), rd90' l13 j hlt, List.drop_eq_getElem_cons hlt, List.map_cons, List.all_cons, refnode_is, Option.bind_some, hw, ih (j + 1) k (by omega) (by omega)]
    show _ = some ((nodeB l13[j].f1.f0 && decide ((l13[j].f1.f2.size : Int) ≤ 64)) && _)
    generalize l13[j] = x
    cases hn : nodeB x.f1.f0
    · rw [if_neg (by decide)]; rfl
    · rw [if_pos rfl]
      by_cases h6 : (x.f1.f2.size : Int) > 64
      · rw [if_pos h6, decide_eq_false (by omega)]; rfl
      · rw [if_neg h6, decide_eq_true (by omega)]; rfl
theorem ref15_l0 (hl : l13.length ≤ 4611686018427387904) (h5 : l5.length ≤ 4611686018427387904) : ∀ (n j k : Nat), j + n = l5.length → n + l13.length + 1 < k →
    conventicleref15_May.l0 k (j : Int) a0 a1 a2 a3 a4 l5 a6 a7 a8 a9 a10 a11 a12 l13 l14 a15 = some ((l5.drop j).all mayU && (l13.map from90).all mayP) := by
  intro n
  induction n with
  | zero =>
    intro j k hj hk
    obtain ⟨k, rfl⟩ : ∃ m, k = m + 1 := ⟨k - 1, by omega⟩
    rw [conventicleref15_May.l0, if_neg (by omega), List.drop_eq_nil_of_le (by omega)]
    have := ref15_l1 a0 a1 a2 a3 a4 l5 a6 a7 a8 a9 a10 a11 a12 l13 l14 a15 hl l13.length 0 k (by omega) (by omega)
    rw [List.drop_zero] at this
    exact this
  | succ n ih =>
    intro j k hj hk
    obtain ⟨k, rfl⟩ : ∃ m, k = m + 1 := ⟨k - 1, by omega⟩
    have hlt : j < l5.length := by omega
    have hw : wrap64 ((j : Int) + 1) = ((j + 1 : Nat) : Int) := by unfold wrap64; omega
    rw [conventicleref15_May.l0, if_pos (by omega), if_pos (by omega), rd70' l5 j hlt, List.drop_eq_getElem_cons hlt, List.all_cons, ref06_is, Option.bind_some, hw, ih (j + 1) k (by omega) (by omega)]
    cases hn : mayU ⟨l5[j].f0, l5[j].f1, l5[j].f2⟩
    · rw [if_neg (by decide)]; rfl
    · rw [if_pos rfl]; rfl
theorem order_three (x : Nat) (h : (FloatKind.f64.format.order x x != some Ordering.eq) = false) : (FloatKind.f64.format.order x 0 == some Ordering.lt) = !geF x := by
  unfold geF
  rw [ord] at h ⊢
  by_cases hn : Go.Proofs.YtondgoabnmgcaaaO.Flt.nan x = true
  · rw [if_pos (.inl hn)] at h; cases h
  · rw [if_neg (by rintro (h | h); exact hn h; exact absurd h (by decide +kernel))]
    cases compare (Go.Proofs.YtondgoabnmgcaaaO.Flt.num x) (Go.Proofs.YtondgoabnmgcaaaO.Flt.num 0) <;> rfl
theorem order_nan (x : Nat) (h : (FloatKind.f64.format.order x x != some Ordering.eq) = true) : geF x = false := by
  cases hg : geF x
  · rfl
  · have := ge_self x hg
    simp_all
theorem ref15_may (hl : l13.length ≤ 4611686018427387904) (h5 : l5.length ≤ 4611686018427387904) (h14 : l14.length ≤ 4611686018427387904) (hwf : wfX l14) (k : Nat) (hk : l5.length + l13.length + l14.length + 3 < k) :
    conventicleref15_May.f k a0 a1 a2 a3 a4 l5 a6 a7 a8 a9 a10 a11 a12 l13 l14 a15 = some (mayL a0 a1 a2 a4 l5 (l13.map from90) l14 a15) := by
  have hj : conventicleref15_May.j0 k true a0 a1 a2 a3 a4 l5 a6 a7 a8 a9 a10 a11 a12 l13 l14 a15 = some false := by
    obtain ⟨k, rfl⟩ : ∃ m, k = m + 1 := ⟨k - 1, by omega⟩
    rw [conventicleref15_May.j0, if_pos rfl]
  have hj2 : conventicleref15_May.j0 k false a0 a1 a2 a3 a4 l5 a6 a7 a8 a9 a10 a11 a12 l13 l14 a15 = some (l5.all mayU && (l13.map from90).all mayP) := by
    obtain ⟨k, rfl⟩ : ∃ m, k = m + 1 := ⟨k - 1, by omega⟩
    rw [conventicleref15_May.j0, if_neg (by decide)]
    have := ref15_l0 a0 a1 a2 a3 a4 l5 a6 a7 a8 a9 a10 a11 a12 l13 l14 a15 hl h5 l5.length 0 k (by omega) (by omega)
    rw [List.drop_zero] at this
    exact this
  unfold conventicleref15_May.f mayL
  rw [List.length_map]
  by_cases c1 : a0 < 1
  · rw [if_pos c1, hj, decide_eq_false (by omega)]; rfl
  rw [if_neg c1, decide_eq_true (show 1 ≤ a0 by omega), Bool.true_and]
  by_cases c2 : a0 > 14
  · rw [if_pos c2, hj, decide_eq_false (by omega)]; rfl
  rw [if_neg c2, decide_eq_true (show a0 ≤ 14 by omega), Bool.true_and, refnode_is, Option.bind_some]
  cases nodeB a1
  · rw [if_neg (by decide), hj]; rfl
  rw [if_pos rfl, refnode_is, Option.bind_some]
  cases nodeB a2
  · rw [if_neg (by decide), hj]; rfl
  rw [if_pos rfl, refnode_is, Option.bind_some]
  cases nodeB a4
  · rw [if_neg (by decide), hj]; rfl
  rw [if_pos rfl, Bool.true_and, Bool.true_and, Bool.true_and]
  by_cases c3 : (l5.length : Int) > 8
  · rw [if_pos c3, hj, decide_eq_false (by omega)]; rfl
  rw [if_neg c3, decide_eq_true (show (l5.length : Int) ≤ 8 by omega), Bool.true_and]
  by_cases c4 : (l13.length : Int) > 6
  · rw [if_pos c4, hj, decide_eq_false (by omega)]; rfl
  rw [if_neg c4, decide_eq_true (show (l13.length : Int) ≤ 6 by omega), Bool.true_and]
  by_cases c5 : (l14.length : Int) > 16
  · rw [if_pos c5, hj, decide_eq_false (by omega)]; rfl
  rw [if_neg c5, decide_eq_true (show (l14.length : Int) ≤ 16 by omega), Bool.true_and, ref12_is l14 h14 hwf k (by omega), Option.bind_some]
  cases sepS l14
  · rw [if_neg (by decide), hj]; simp
  rw [if_pos rfl, Bool.true_and]
  cases c6 : (FloatKind.f64.format.order a15 a15 != some Ordering.eq)
  · rw [if_neg (by decide), order_three a15 c6]
    cases geF a15
    · rw [if_pos (by decide), hj]; simp
    · rw [if_neg (by decide), negF_is, Option.bind_some]
      cases negF a15
      · rw [hj2]; simp
      · rw [hj]; simp
  · rw [if_pos rfl, hj, order_nan a15 c6]; simp
end
end Go.Proofs.Ytondgoabnmgcaaa.B
end
section
/- By hand: the reference's Decode: what it reads, step by step, and where its walk stands. -/
namespace Go.Proofs.Ytondgoabnmgcaaa.B
open Go.RowKit Go.Proofs.YtondgoabnmgcaaaW.PrintWords Go.Proofs.YtondgoabnmgcaaaW.PrintLast Go.Proofs.YtondgoabnmgcaaaW.PrintMore
open Go.Proofs.YtondgoabnmgcaaaO.B (IsR)
open Go.Proofs.YtondgoabnmgcaaaO.R (rdv rdv_range rbits)
set_option linter.unusedSimpArgs false
set_option linter.unusedVariables false
/-! items, one behind the other -/
def uS (s : ByteArray) (st : Nat × Int) : S70 := ⟨rv s 1 st, rv s 8 (nx s 1 st), rv s 1 (nx s 8 (nx s 1 st))⟩
def uN (s : ByteArray) (st : Nat × Int) : Nat × Int := nx s 1 (nx s 8 (nx s 1 st))
def pS (s : ByteArray) (st : Nat × Int) : S90 := ⟨rv s 8 st, ⟨rv s 1 (nx s 8 st), rv s 8 (nx s 1 (nx s 8 st)), tv s (nx s 8 (nx s 1 (nx s 8 st)))⟩⟩
def pN (s : ByteArray) (st : Nat × Int) : Nat × Int := tx s (nx s 8 (nx s 1 (nx s 8 st)))
def xS (s : ByteArray) (st : Nat × Int) : S77 := ⟨rv s 8 st, rv s 8 (nx s 8 st)⟩
def xN (s : ByteArray) (st : Nat × Int) : Nat × Int := nx s 8 (nx s 8 st)
/-- so many items from st: where one stands behind them, and they -/
def its {α : Type} (it : Nat × Int → α) (go : Nat × Int → Nat × Int) (st : Nat × Int) : Nat → (Nat × Int) × List α
  | 0 => (st, [])
  | n + 1 => (go (its it go st n).1, (its it go st n).2 ++ [it (its it go st n).1])
theorem its_le {α : Type} {it : Nat × Int → α} {go : Nat × Int → Nat × Int} {s : ByteArray} (hg : ∀ st, st.1 ≤ s.size → (go st).1 ≤ s.size) {st : Nat × Int} (h : st.1 ≤ s.size) : ∀ n, (its it go st n).1.1 ≤ s.size
  | 0 => h
  | n + 1 => hg _ (its_le hg h n)
theorem its_len {α : Type} (it : Nat × Int → α) (go : Nat × Int → Nat × Int) (st : Nat × Int) : ∀ n, (its it go st n).2.length = n
  | 0 => rfl
  | n + 1 => by rw [its, List.length_append, its_len it go st n]; rfl
theorem uN_le {s : ByteArray} (st : Nat × Int) (h : st.1 ≤ s.size) : (uN s st).1 ≤ s.size := nx_le (nx_le (nx_le h))
theorem pN_le {s : ByteArray} (st : Nat × Int) (h : st.1 ≤ s.size) : (pN s st).1 ≤ s.size := tx_le (nx_le (nx_le (nx_le h)))
theorem xN_le {s : ByteArray} (st : Nat × Int) (h : st.1 ≤ s.size) : (xN s st).1 ≤ s.size := nx_le (nx_le h)
section
variable (s : ByteArray)
def t1 := nx s 1 (0, 0)
def t2 := nx s 1 (t1 s)
def t3 := nx s 1 (t2 s)
def t4 := nx s 8 (t3 s)
def t5 := nx s 1 (t4 s)
def t6 := mx s 8 (t5 s)
def nU : Nat := (mv s 8 (t5 s)).toNat
def t7 := (its (uS s) (uN s) (t6 s) (nU s)).1
def lU := (its (uS s) (uN s) (t6 s) (nU s)).2
def t8 := nx s 8 (t7 s)
def t9 := nx s 8 (t8 s)
def t10 := nx s 8 (t9 s)
def t11 := nx s 8 (t10 s)
def t12 := nx s 8 (t11 s)
def t13 := nx s 8 (t12 s)
def t14 := nx s 8 (t13 s)
def t15 := mx s 6 (t14 s)
def nP : Nat := (mv s 6 (t14 s)).toNat
def t16 := (its (pS s) (pN s) (t15 s) (nP s)).1
def lP := (its (pS s) (pN s) (t15 s) (nP s)).2
def t17 := mx s 16 (t16 s)
def nX : Nat := (mv s 16 (t16 s)).toNat
def t18 := (its (xS s) (xN s) (t17 s) (nX s)).1
def lX := (its (xS s) (xN s) (t17 s) (nX s)).2
def t19 := nx s 8 (t18 s)
def fL : Nat := (rbits (rv s 8 (t18 s)).toNat).toNat
/-- the letter that was read -/
def refL : S38 := ⟨rv s 1 (0, 0), rv s 1 (t1 s), rv s 1 (t2 s), rv s 8 (t3 s), rv s 1 (t4 s), lU s, ⟨rv s 8 (t7 s), rv s 8 (t8 s)⟩, rv s 8 (t9 s), rv s 8 (t10 s), ⟨rv s 8 (t11 s), rv s 8 (t12 s)⟩, rv s 8 (t13 s), lP s, lX s, fL s⟩
def refB : Bool := mayL (rv s 1 (0, 0)) (rv s 1 (t1 s)) (rv s 1 (t2 s)) (rv s 1 (t4 s)) (lU s) ((lP s).map from90) (lX s) (fL s)
/-- the reference's answer, behind the seal -/
def refD : Except Int S38 :=
  if ¬ (t19 s).2 = 0 then .error (t19 s).2 else if 0 < (s.size : Int) - (t19 s).1 then .error 11 else if rv s 1 (0, 0) < 1 ∨ 14 < rv s 1 (0, 0) then .error 150 else if refB s = false then .error 1 else .ok (refL s)
theorem z_le : ((0, 0) : Nat × Int).1 ≤ s.size := Nat.zero_le _
theorem t1_le : (t1 s).1 ≤ s.size := nx_le (z_le s)
theorem t2_le : (t2 s).1 ≤ s.size := nx_le (t1_le s)
theorem t3_le : (t3 s).1 ≤ s.size := nx_le (t2_le s)
theorem t4_le : (t4 s).1 ≤ s.size := nx_le (t3_le s)
theorem t5_le : (t5 s).1 ≤ s.size := nx_le (t4_le s)
theorem t6_le : (t6 s).1 ≤ s.size := mx_le (t5_le s)
theorem t7_le : (t7 s).1 ≤ s.size := its_le (fun st h => uN_le st h) (t6_le s) _
theorem t8_le : (t8 s).1 ≤ s.size := nx_le (t7_le s)
theorem t9_le : (t9 s).1 ≤ s.size := nx_le (t8_le s)
theorem t10_le : (t10 s).1 ≤ s.size := nx_le (t9_le s)
theorem t11_le : (t11 s).1 ≤ s.size := nx_le (t10_le s)
theorem t12_le : (t12 s).1 ≤ s.size := nx_le (t11_le s)
theorem t13_le : (t13 s).1 ≤ s.size := nx_le (t12_le s)
theorem t14_le : (t14 s).1 ≤ s.size := nx_le (t13_le s)
theorem t15_le : (t15 s).1 ≤ s.size := mx_le (t14_le s)
theorem t16_le : (t16 s).1 ≤ s.size := its_le (fun st h => pN_le st h) (t15_le s) _
theorem t17_le : (t17 s).1 ≤ s.size := mx_le (t16_le s)
theorem t18_le : (t18 s).1 ≤ s.size := its_le (fun st h => xN_le st h) (t17_le s) _
theorem t19_le : (t19 s).1 ≤ s.size := nx_le (t18_le s)
end
theorem mv_range (s : ByteArray) (most : Nat) (st : Nat × Int) : 0 ≤ mv s most st ∧ mv s most st < 256 := by
  have h := rv_range s 1 st
  have h2 : (256 : Int) ^ 1 = 256 := rfl
  unfold mv
  by_cases h1 : (nx s 1 st).2 = 0
  · rw [if_pos h1]
    by_cases h3 : (most : Int) < rv s 1 st
    · rw [if_pos h3]; omega
    · rw [if_neg h3]; omega
  · rw [if_neg h1]; omega
/-- where the walk stands: the reader, the result, the letter, its rows -/
structure Rd (w0 W : World) (g g2 g7 : Nat) (s : ByteArray) (st : Nat × Int) (cs : Array Value) (v5 v13 v14 : Value) (l5 : List S70) (l13 : List S90) (l14 : List S77) : Prop where
  I : IsR st.2 w0 W g s st.1
  B : Below w0.heap.size w0 W
  K2 : W.heap[g2]? = some (.cells zeroL 38 (0, 0))
  K7 : W.heap[g7]? = some (.cells cs 38 (0, 0))
  n2 : g2 ≠ g
  n7 : g7 ≠ g
  n27 : g2 ≠ g7
  l2 : w0.heap.size ≤ g2
  l7 : w0.heap.size ≤ g7
  sz : cs.size = 16
  R5 : Kd.R k70 70 W w0.heap.size (fun _ => True) v5 l5
  R13 : Kd.R k90 90 W w0.heap.size (fun _ => True) v13 l13
  R14 : Kd.R k77 77 W w0.heap.size (fun _ => True) v14 l14
section
variable {w0 W : World} {g g2 g7 : Nat} {s : ByteArray} {st : Nat × Int} {cs : Array Value} {v5 v13 v14 : Value} {l5 : List S70} {l13 : List S90} {l14 : List S77}
theorem Rd.c7 (S : Rd w0 W g g2 g7 s st cs v5 v13 v14 l5 l13 l14) (j : Nat) : W.cell? ⟨g7, j, none⟩ = cs[j]? := blk_cell S.K7 j
theorem Rd.f7 (S : Rd w0 W g g2 g7 s st cs v5 v13 v14 l5 l13 l14) (j : Nat) : W.frozen? ⟨g7, j, none⟩ = false := blk_frozen S.K7 j
theorem Rd.cE (S : Rd w0 W g g2 g7 s st cs v5 v13 v14 l5 l13 l14) : W.cell? ⟨g, 2, none⟩ = some (.int .i64 st.2) := (blk_cell S.I.1 2).trans rfl
theorem Rd.call {W' : World} {q' : Nat × Int} (S : Rd w0 W g g2 g7 s st cs v5 v13 v14 l5 l13 l14) (hI : IsR q'.2 w0 W' g s q'.1) (hB : Below w0.heap.size w0 W') (hK : KeepBut W W' g none) : Rd w0 W' g g2 g7 s q' cs v5 v13 v14 l5 l13 l14 :=
  ⟨hI, hB, hK.blk S.K2 S.n2 (by simp), hK.blk S.K7 S.n7 (by simp), S.n2, S.n7, S.n27, S.l2, S.l7, S.sz,
    Kd.R_mono (Kd.R_keep (Kd.R_types S.R5 S.I.1 (by decide)) hK (fun _ h => h.2)) (fun _ _ => trivial), Kd.R_mono (Kd.R_keep (Kd.R_types S.R13 S.I.1 (by decide)) hK (fun _ h => h.2)) (fun _ _ => trivial), Kd.R_mono (Kd.R_keep (Kd.R_types S.R14 S.I.1 (by decide)) hK (fun _ h => h.2)) (fun _ _ => trivial)⟩
theorem isR_far {E : Int} {p : Addr} (h : IsR E w0 W g s st.1) (hne : g ≠ p.block) (u : Value) : IsR E w0 (W.setCell p u) g s st.1 := ⟨blk_far h.1 hne u, h.2⟩
theorem Rd.put (S : Rd w0 W g g2 g7 s st cs v5 v13 v14 l5 l13 l14) (j : Nat) (v : Value) : Rd w0 (W.setCell ⟨g7, j, none⟩ v) g g2 g7 s st (cs.setIfInBounds j v) v5 v13 v14 l5 l13 l14 :=
  ⟨isR_far S.I (p := ⟨g7, j, none⟩) (Ne.symm S.n7) v, below_set S.B S.l7, blk_far (p := ⟨g7, j, none⟩) S.K2 S.n27 v, blk_put S.K7 j v rfl, S.n2, S.n7, S.n27, S.l2, S.l7, by rw [Array.size_setIfInBounds]; exact S.sz,
    Kd.R_mono (Kd.R_far (p := ⟨g7, j, none⟩) (Kd.R_types S.R5 S.K7 (by decide)) (fun _ h => h.2) v) (fun _ _ => trivial), Kd.R_mono (Kd.R_far (p := ⟨g7, j, none⟩) (Kd.R_types S.R13 S.K7 (by decide)) (fun _ h => h.2) v) (fun _ _ => trivial), Kd.R_mono (Kd.R_far (p := ⟨g7, j, none⟩) (Kd.R_types S.R14 S.K7 (by decide)) (fun _ h => h.2) v) (fun _ _ => trivial)⟩
theorem r_grown {α β : Type} {d : Kd α} {d' : Kd β} {e e' base base' : Nat} {ok' : Nat → Prop} {W1 : World} {v u : Value} {l : List α} {l' : List β} (h : Kd.R d e W base (fun _ => True) v l) (hu : Kd.R d' e' W base' ok' u l') (hg : W.grownBy W1 u.ownBlock) (ht : ∀ q, q ∈ e :: d.E → q ≠ e') : Kd.R d e W1 base (fun _ => True) v l := by
  refine Kd.R_mono (Kd.R_grown (Kd.R_bound h) hg ?_) (fun _ _ => trivial)
  rintro k ⟨_, _, _, q, hq, cells, hc⟩ hk
  have := own_typed' hu k hk.symm hc
  exact ht q hq this.symm
theorem blk_grownT {W1 : World} {α : Type} {d : Kd α} {e base : Nat} {ok : Nat → Prop} {u : Value} {l : List α} {x t : Nat} {c : Array Value} (hb : W.heap[x]? = some (.cells c t (0, 0))) (hu : Kd.R d e W base ok u l) (hg : W.grownBy W1 u.ownBlock) (ht : e ≠ t) : W1.heap[x]? = some (.cells c t (0, 0)) :=
  (hg.block x (blk_lt hb) (fun hk => ht (own_typed' hu x hk.symm hb))).trans hb
theorem Rd.row5 {W1 : World} {v : Value} {l : List S70} (S : Rd w0 W g g2 g7 s st cs v5 v13 v14 l5 l13 l14) (h : Kd.R k70 70 W1 w0.heap.size (fun _ => True) v l) (hb : Below w0.heap.size w0 W1) (hg : W.grownBy W1 v5.ownBlock) : Rd w0 W1 g g2 g7 s st cs v v13 v14 l l13 l14 :=
  ⟨⟨blk_grownT S.I.1 S.R5 hg (by decide), S.I.2⟩, hb, blk_grownT S.K2 S.R5 hg (by decide), blk_grownT S.K7 S.R5 hg (by decide), S.n2, S.n7, S.n27, S.l2, S.l7, S.sz, h, r_grown S.R13 S.R5 hg (by decide), r_grown S.R14 S.R5 hg (by decide)⟩
theorem Rd.row13 {W1 : World} {v : Value} {l : List S90} (S : Rd w0 W g g2 g7 s st cs v5 v13 v14 l5 l13 l14) (h : Kd.R k90 90 W1 w0.heap.size (fun _ => True) v l) (hb : Below w0.heap.size w0 W1) (hg : W.grownBy W1 v13.ownBlock) : Rd w0 W1 g g2 g7 s st cs v5 v v14 l5 l l14 :=
  ⟨⟨blk_grownT S.I.1 S.R13 hg (by decide), S.I.2⟩, hb, blk_grownT S.K2 S.R13 hg (by decide), blk_grownT S.K7 S.R13 hg (by decide), S.n2, S.n7, S.n27, S.l2, S.l7, S.sz, r_grown S.R5 S.R13 hg (by decide), h, r_grown S.R14 S.R13 hg (by decide)⟩
theorem Rd.row14 {W1 : World} {v : Value} {l : List S77} (S : Rd w0 W g g2 g7 s st cs v5 v13 v14 l5 l13 l14) (h : Kd.R k77 77 W1 w0.heap.size (fun _ => True) v l) (hb : Below w0.heap.size w0 W1) (hg : W.grownBy W1 v14.ownBlock) : Rd w0 W1 g g2 g7 s st cs v5 v13 v l5 l13 l :=
  ⟨⟨blk_grownT S.I.1 S.R14 hg (by decide), S.I.2⟩, hb, blk_grownT S.K2 S.R14 hg (by decide), blk_grownT S.K7 S.R14 hg (by decide), S.n2, S.n7, S.n27, S.l2, S.l7, S.sz, r_grown S.R5 S.R14 hg (by decide), r_grown S.R13 S.R14 hg (by decide), h⟩
theorem Rd.below {W' : World} (S : Rd w0 W g g2 g7 s st cs v5 v13 v14 l5 l13 l14) (hb : Below W.heap.size W W') : Rd w0 W' g g2 g7 s st cs v5 v13 v14 l5 l13 l14 :=
  S.call ⟨blk_below S.I.1 hb, S.I.2⟩ (below_step S.B hb) (KeepBut.of_below hb g none)
end
/-- within a round: the reader, and the item's block, all else as it was in W0 -/
structure In (w0 W0 W : World) (g x : Nat) (s : ByteArray) (st : Nat × Int) (cs : Array Value) (t : TypeId) : Prop where
  I : IsR st.2 w0 W g s st.1
  B : Below w0.heap.size w0 W
  K : KeepBut W0 W g none
  X : W.heap[x]? = some (.cells cs t (0, 0))
  n : x ≠ g
  l : W0.heap.size ≤ x
  l0 : w0.heap.size ≤ x
section
variable {w0 W0 W : World} {g x : Nat} {s : ByteArray} {st : Nat × Int} {cs : Array Value} {t : TypeId}
theorem In.cx (S : In w0 W0 W g x s st cs t) (j : Nat) : W.cell? ⟨x, j, none⟩ = cs[j]? := blk_cell S.X j
theorem In.fx (S : In w0 W0 W g x s st cs t) (j : Nat) : W.frozen? ⟨x, j, none⟩ = false := blk_frozen S.X j
theorem In.call {W' : World} {q' : Nat × Int} (S : In w0 W0 W g x s st cs t) (hI : IsR q'.2 w0 W' g s q'.1) (hB : Below w0.heap.size w0 W') (hK : KeepBut W W' g none) : In w0 W0 W' g x s q' cs t :=
  ⟨hI, hB, S.K.trans hK (.inl rfl), hK.blk S.X S.n (by simp), S.n, S.l, S.l0⟩
theorem In.put (S : In w0 W0 W g x s st cs t) (j : Nat) (v : Value) : In w0 W0 (W.setCell ⟨x, j, none⟩ v) g x s st (cs.setIfInBounds j v) t :=
  ⟨isR_far S.I (p := ⟨x, j, none⟩) (Ne.symm S.n) v, below_set S.B S.l0, keep_far S.K (p := ⟨x, j, none⟩) S.l v, blk_put S.X j v rfl, S.n, S.l, S.l0⟩
theorem In.new {W1 : World} (HI : IsR st.2 w0 W0 g s st.1) (HB : Below w0.heap.size w0 W0) (e1 : x = W0.heap.size) (h1 : W1.heap[x]? = some (.cells cs t (0, 0))) (b1 : Below W0.heap.size W0 W1) : In w0 W0 W1 g x s st cs t :=
  ⟨⟨blk_below HI.1 b1, HI.2⟩, below_step HB b1, KeepBut.of_below b1 g none, h1, by have := blk_lt HI.1; omega, Nat.le_of_eq e1.symm, by have := HB.size; omega⟩
end
/-- the reference's letter, as it is handed back -/
def cells38 (x : S38) (v5 v13 v14 : Value) : Array Value := #[.int .i64 x.f0, .int .i64 x.f1, .int .i64 x.f2, .int .u64 x.f3, .int .i64 x.f4, v5, .int .u64 x.f6.f0, .int .u64 x.f6.f1, .int .u64 x.f7, .int .u64 x.f8, .int .u64 x.f9.f0, .int .u64 x.f9.f1, .int .u64 x.f10, v13, v14, .float .f64 x.f13]
def RPost (D : Except Int S38) (w0 : World) (e : Ending) (w' : World) : Prop :=
  Below w0.heap.size w0 w' ∧ match D with
  | .error er => e = .returned (.tuple #[.agg zeroL, .int .i64 er])
  | .ok x => ∃ v5 v13 v14, e = .returned (.tuple #[.agg (cells38 x v5 v13 v14), .int .i64 0]) ∧ Kd.R k70 70 w' w0.heap.size (fun _ => True) v5 x.f5 ∧ Kd.R k90 90 w' w0.heap.size (fun _ => True) v13 x.f11 ∧ Kd.R k77 77 w' w0.heap.size (fun _ => True) v14 x.f12
end Go.Proofs.Ytondgoabnmgcaaa.B
end
section
/- By hand: the reference's Decode (printed by refdec.py). -/
namespace Go.Proofs.Ytondgoabnmgcaaa.B
open Go.RowKit Go.Proofs.YtondgoabnmgcaaaW.PrintWords Go.Proofs.YtondgoabnmgcaaaW.PrintLast Go.Proofs.YtondgoabnmgcaaaW.PrintMore
open Go.Proofs.YtondgoabnmgcaaaO.B (IsR)
open Go.Proofs.YtondgoabnmgcaaaO.R (rdv rdv_range rbits)
set_option linter.unusedSimpArgs false
set_option linter.unusedVariables false
attribute [local go_sem] run_store_float
theorem row_stores {o : Oper} {a : Act} {w : World} (ty : TypeId) (x y : Operand) (ho : o.op = .store ty x y)
    (g : Nat) (cells : Array Value) (hx : a.eval x = .pointer (some ⟨g, 0, none⟩)) (hy : a.eval y = .agg cells)
    (t : TypeId) (old : Array Value) (hg : w.heap[g]? = some (.cells old t (0, 0))) (hi : (Try.prog.info? ty).map (·.size) = some cells.size)
    (hold : old.size = cells.size) (h1 : cells.all (·.oneCell') = true) : (execOp a.eval o).run Try.prog w = .ok .skip (w.setRow g cells) := by
  unfold execOp
  simp only [ho, hx, hy, Instr.storeAt, Instr.sureAddr, Sem.run_bind, Sem.run_pure, Result.andThen_ok, run_storeVar_row w g t ty old cells hg hi hold h1]
theorem lU_len (s : ByteArray) : (lU s).length < 256 := by
  unfold lU nU
  rw [its_len]
  have := mv_range s 8 (t5 s)
  omega
theorem lP_len (s : ByteArray) : (lP s).length < 256 := by
  unfold lP nP
  rw [its_len]
  have := mv_range s 6 (t14 s)
  omega
theorem lX_len (s : ByteArray) : (lX s).length < 256 := by
  unfold lX nX
  rw [its_len]
  have := mv_range s 16 (t16 s)
  omega
theorem its_all {α : Type} {it : Nat × Int → α} {go : Nat × Int → Nat × Int} {P : α → Prop} (h : ∀ st, P (it st)) (st : Nat × Int) : ∀ n, ∀ x ∈ (its it go st n).2, P x
  | 0, x, hx => by cases hx
  | n + 1, x, hx => by
    rw [its, List.mem_append] at hx
    rcases hx with hx | hx
    · exact its_all h st n x hx
    · rw [List.mem_singleton] at hx
      subst hx
      exact h _
theorem lX_wf (s : ByteArray) : wfX (lX s) := by
  unfold lX wfX
  refine its_all (fun st => ?_) _ _
  have h1 := rv_range s 8 st
  have h2 := rv_range s 8 (nx s 8 st)
  exact ⟨h1.1, h1.2, h2.1, h2.2⟩
theorem ret11 {tmps : Array Value} {ds : List Deferred} {w : World} {Q : Ending → World → Prop} (g2 : Nat) (cs : Array Value) (V : Value) (hd : ds = []) (h2 : tmps.getD 2 undef = .pointer (some ⟨g2, 0, none⟩)) (h3 : tmps.getD 3 undef = V)
    (hg : w.heap[g2]? = some (.cells cs 38 (0, 0))) (hi : (Try.prog.info? 38).map (·.size) = some cs.size) (hQ : Q (.returned (.tuple #[.agg cs, V])) w) : bodyPost Try.prog Try.f11 Q .ret { tmps := tmps, defers := ds } w := by
  refine bodyPost_ret (v := .tuple #[.agg cs, V]) ?_ hd hQ
  rw [← h3]
  exact results_ct (fn := Try.f11) (p := 2) (u := 3) (ty := 38) (by kernel_rfl) _ _ g2 38 cs (0, 0) _ h2 hg Try.underlying38 rfl hi
theorem oz70 : (#[.int .i64 0, .int .u64 0, .int .i64 0] : Array Value).all (·.oneCell') = true := by kernel_rfl
theorem oz90 : (#[.int .u64 0, .int .i64 0, .int .u64 0, .string ⟨#[]⟩] : Array Value).all (·.oneCell') = true := by kernel_rfl
theorem oz77 : (#[.int .u64 0, .int .u64 0] : Array Value).all (·.oneCell') = true := by kernel_rfl
theorem si90 : (Try.prog.info? 90).map (·.size) = some 4 := by kernel_rfl
theorem rd_start {w W : World} {g g2 g7 : Nat} {s : ByteArray} (I : IsR 0 w W g s 0) (B : Below w.heap.size w W) (K2 : W.heap[g2]? = some (.cells zeroL 38 (0, 0))) (K7 : W.heap[g7]? = some (.cells zeroL 38 (0, 0))) (l2 : w.heap.size ≤ g2) (l7 : w.heap.size ≤ g7) (n2 : g2 ≠ g) (n7 : g7 ≠ g) (n27 : g2 ≠ g7) :
    Rd w (W.setRow g7 zeroL) g g2 g7 s (0, 0) zeroL (.slice none 0 0) (.slice none 0 0) (.slice none 0 0) [] [] [] :=
  ⟨⟨(setRow_other W g7 g zeroL (Ne.symm n7)).trans I.1, I.2⟩, below_setRow B l7 zeroL, (setRow_other W g7 g2 zeroL n27).trans K2, setRow_heap W g7 zeroL zeroL 38 (0, 0) K7, n2, n7, n27, l2, l7, rfl, Kd.R_nil _ _ _ _ _, Kd.R_nil _ _ _ _ _, Kd.R_nil _ _ _ _ _⟩
set_option maxRecDepth 100000 in
set_option maxHeartbeats 4000000 in
theorem refdec_shut (t s : ByteArray) (k : Nat) (er : Int) (w : World) (hO : Go.Proofs.YtondgoabnmgcaaaG.B.conventicleref02_Open.f k t = some (s, er)) (he : er ≠ 0) :
    Calls Try.prog 11 #[.string t] w fun e w' => e = .returned (.tuple #[.agg zeroL, .int .i64 er]) ∧ Below w.heap.size w w' := by
  have HO := Aside0.mk hO
  have si38 := si38
  clear hO
  go_enter Try.func11, Try.ntmps11
  go_wp2_with (first
    | ((with_reducible refine gate_dst (N := 2) rfl ?_); refine box_event ?hg (N := 2) ?hd (cs := #[.int .i64 0, .int .i64 0, .int .i64 0, .int .u64 0, .int .i64 0, .slice none 0 0, .int .u64 0, .int .u64 0, .int .u64 0, .int .u64 0, .int .u64 0, .int .u64 0, .int .u64 0, .slice none 0 0, .slice none 0 0, .float .f64 0]) (t := 38) ?hr ?_; (case hd => rfl); (case hg => rfl); (case hr => first | (go_simp; done) | (go_simp; rfl)); intro g2 hg_ w1 hb_ hB_; have K2 := Aside0.mk hb_; have B1 := Aside0.mk hB_; have L2 := Aside0.mk (Nat.le_of_eq hg_.symm); clear hg_ hb_ hB_)
    | (go_at_call 39; refine (Go.Proofs.YtondgoabnmgcaaaG.B.conventicleref02_Open.calls k t s er _ HO.out).mono ?_; rintro e w2 ⟨rfl, hb⟩; have K2b := Aside0.mk (blk_below K2.out hb); have B2 := Aside0.mk (below_step B1.out hb); clear hb K2 B1)
    | ((with_reducible refine gate_store (t := 38) (p := 2) rfl ?_); go_loud (refine wpList_store_row rfl 38 (.tmp 2) (.tmp 24) rfl g2 zeroL rfl rfl 38 zeroL K2b.out si38 rfl oneL ?_); have K2e := Aside0.mk (setRow_heap w2 g2 zeroL zeroL 38 (0, 0) K2b.out); have B3 := Aside0.mk (below_setRow B2.out L2.out zeroL); generalize World.setRow w2 g2 _ = w3 at K2e B3 ⊢; clear K2b B2))
  refine bodyPost_ret (v := .tuple #[.agg zeroL, .int .i64 er]) (results_ct (fn := Try.f11) (p := 2) (u := 3) (ty := 38) (by kernel_rfl) _ _ g2 38 zeroL (0, 0) _ rfl K2e.out Try.underlying38 rfl si38) rfl ?_
  exact ⟨rfl, B3.out⟩
set_option maxRecDepth 100000 in
set_option maxHeartbeats 8000000 in
theorem refdec_walk (t s : ByteArray) (k : Nat) (w : World) (hO : Go.Proofs.YtondgoabnmgcaaaG.B.conventicleref02_Open.f k t = some (s, 0)) (hs : s.size < 4611686018427387904) :
    Calls Try.prog 11 #[.string t] w (RPost (refD s) w) := by
  have HO := Aside0.mk hO
  have HS := Aside0.mk hs
  have si38 := si38
  obtain ⟨D, hD⟩ : ∃ D, D = refD s := ⟨_, rfl⟩
  rw [← hD]
  have HD := Aside0.mk hD
  obtain ⟨nu, hu⟩ : ∃ n, n = nU s := ⟨_, rfl⟩
  obtain ⟨np, hp⟩ : ∃ n, n = nP s := ⟨_, rfl⟩
  obtain ⟨nn, hx⟩ : ∃ n, n = nX s := ⟨_, rfl⟩
  have HU : Aside0 (mv s 8 (t5 s) = (nu : Int)) := ⟨by have := mv_range s 8 (t5 s); rw [hu]; unfold nU; omega⟩
  have HP : Aside0 (mv s 6 (t14 s) = (np : Int)) := ⟨by have := mv_range s 6 (t14 s); rw [hp]; unfold nP; omega⟩
  have HX : Aside0 (mv s 16 (t16 s) = (nn : Int)) := ⟨by have := mv_range s 16 (t16 s); rw [hx]; unfold nX; omega⟩
  have HU2 := Aside0.mk (show nu < 256 by have := mv_range s 8 (t5 s); rw [hu]; unfold nU; omega)
  have HP2 := Aside0.mk (show np < 256 by have := mv_range s 6 (t14 s); rw [hp]; unfold nP; omega)
  have HX2 := Aside0.mk (show nn < 256 by have := mv_range s 16 (t16 s); rw [hx]; unfold nX; omega)
  have UE := Aside0.mk hu
  have PE := Aside0.mk hp
  have XE := Aside0.mk hx
  have hlu : (nu : Int) ≤ 9223372036854775807 := by have := HU2.out; omega
  have hlp : (np : Int) ≤ 9223372036854775807 := by have := HP2.out; omega
  have hlx : (nn : Int) ≤ 9223372036854775807 := by have := HX2.out; omega
  clear hO hs hD hu hp hx
  go_enter Try.func11, Try.ntmps11
  generalize hQf : bodyPost Try.prog Try.f11 (RPost D w) = Qf
  have HQf := Aside0.mk hQf
  clear hQf
  go_wp2_with (first
    | ((with_reducible refine gate_dst (N := 2) rfl ?_); refine box_event ?hg (N := 2) ?hd (cs := #[.int .i64 0, .int .i64 0, .int .i64 0, .int .u64 0, .int .i64 0, .slice none 0 0, .int .u64 0, .int .u64 0, .int .u64 0, .int .u64 0, .int .u64 0, .int .u64 0, .int .u64 0, .slice none 0 0, .slice none 0 0, .float .f64 0]) (t := 38) ?hr ?_; (case hd => rfl); (case hg => rfl); (case hr => first | (go_simp; done) | (go_simp; rfl)); intro g2 hg_ w1 hb_ hB_; have K2 := Aside0.mk hb_; have B1 := Aside0.mk hB_; have L2 := Aside0.mk (Nat.le_of_eq hg_.symm); clear hg_ hb_ hB_)
    | (go_at_call 39; refine (Go.Proofs.YtondgoabnmgcaaaG.B.conventicleref02_Open.calls k t s 0 _ HO.out).mono ?_; rintro e w2 ⟨rfl, hb⟩; have K2b := Aside0.mk (blk_below K2.out hb); have B2 := Aside0.mk (below_step B1.out hb); clear hb K2 B1)
    | ((with_reducible refine gate_dst (N := 29) rfl ?_); refine box_event ?hg (N := 29) ?hd (cs := #[.string s, .int .i64 0, .int .i64 0]) (t := 87) ?hr ?_; (case hd => rfl); (case hg => rfl); (case hr => first | (go_simp; done) | (go_simp; rfl)); intro g hg_ w3 hb_ hB_; have IG := Aside0.mk (show IsR 0 w w3 g s 0 from ⟨hb_, by rw [hg_]; exact B2.out.size⟩); have K2c := Aside0.mk (blk_below K2b.out hB_); have B3 := Aside0.mk (below_step B2.out hB_); have N2 := Aside0.mk (show g2 ≠ g by have := blk_lt K2b.out; omega); clear hg_ hb_ hB_ K2b B2)
    | ((with_reducible refine gate_dst (N := 7) rfl ?_); refine box_event ?hg (N := 7) ?hd (cs := #[.int .i64 0, .int .i64 0, .int .i64 0, .int .u64 0, .int .i64 0, .slice none 0 0, .int .u64 0, .int .u64 0, .int .u64 0, .int .u64 0, .int .u64 0, .int .u64 0, .int .u64 0, .slice none 0 0, .slice none 0 0, .float .f64 0]) (t := 38) ?hr ?_; (case hd => rfl); (case hg => rfl); (case hr => first | (go_simp; done) | (go_simp; rfl)); intro g7 hg_ w4 hb_ hB_; have IG4 := Aside0.mk (show IsR 0 w w4 g s 0 from ⟨blk_below IG.out.1 hB_, IG.out.2⟩); have K7 := Aside0.mk hb_; have K2d := Aside0.mk (blk_below K2c.out hB_); have B4 := Aside0.mk (below_step B3.out hB_); have L7 := Aside0.mk (show w.heap.size ≤ g7 by rw [hg_]; exact B3.out.size); have N27 := Aside0.mk (show g2 ≠ g7 by have := blk_lt K2c.out; omega); have N7 := Aside0.mk (show g7 ≠ g by have := blk_lt IG.out.1; omega); clear hg_ hb_ hB_ K2c B3 IG)
    | ((with_reducible refine gate_store (t := 38) (p := 7) rfl ?_); go_loud (refine wpList_store_row rfl 38 (.tmp 7) (.tmp 30) rfl g7 zeroL rfl rfl 38 zeroL K7.out si38 rfl oneL ?_); have S0 := Aside0.mk (rd_start IG4.out B4.out K2d.out K7.out L2.out L7.out N2.out N7.out N27.out); have z := S0.out.c7 0; have zf := S0.out.f7 0; generalize World.setRow _ _ _ = w5 at S0 z zf ⊢; clear K2d K7 B4 IG4)
    | (go_at_call 40; refine (rnumber_at w _ g s (0, 0) 1 (by decide) (by decide) HS.out (z_le s) (S0.out).I (S0.out).B).mono ?_; rintro e wb0 ⟨rfl, hi, hb, hk⟩; (try clear z); (try clear zf); have S1 : Aside0 (Rd w wb0 g g2 g7 s (t1 s) #[.int .i64 0, .int .i64 0, .int .i64 0, .int .u64 0, .int .i64 0, .slice none 0 0, .int .u64 0, .int .u64 0, .int .u64 0, .int .u64 0, .int .u64 0, .int .u64 0, .int .u64 0, .slice none 0 0, .slice none 0 0, .float .f64 0] _ _ _ _ _ _) := ⟨(S0.out).call (q' := t1 s) hi hb hk⟩; have z := S1.out.c7 0; have zf := S1.out.f7 0; clear hi hb hk S0)
    | (go_at_call 40; refine (rnumber_at w _ g s (t1 s) 1 (by decide) (by decide) HS.out (t1_le s) (S1.out.put 0 (.int .i64 (wrap64 (rv s 1 (0, 0))))).I (S1.out.put 0 (.int .i64 (wrap64 (rv s 1 (0, 0))))).B).mono ?_; rintro e wb1 ⟨rfl, hi, hb, hk⟩; (try clear z); (try clear zf); have S2 : Aside0 (Rd w wb1 g g2 g7 s (t2 s) #[.int .i64 (wrap64 (rv s 1 (0, 0))), .int .i64 0, .int .i64 0, .int .u64 0, .int .i64 0, .slice none 0 0, .int .u64 0, .int .u64 0, .int .u64 0, .int .u64 0, .int .u64 0, .int .u64 0, .int .u64 0, .slice none 0 0, .slice none 0 0, .float .f64 0] _ _ _ _ _ _) := ⟨(S1.out.put 0 (.int .i64 (wrap64 (rv s 1 (0, 0))))).call (q' := t2 s) hi hb hk⟩; have z := S2.out.c7 1; have zf := S2.out.f7 1; clear hi hb hk S1)
    | (go_at_call 40; refine (rnumber_at w _ g s (t2 s) 1 (by decide) (by decide) HS.out (t2_le s) (S2.out.put 1 (.int .i64 (wrap64 (rv s 1 (t1 s))))).I (S2.out.put 1 (.int .i64 (wrap64 (rv s 1 (t1 s))))).B).mono ?_; rintro e wb2 ⟨rfl, hi, hb, hk⟩; (try clear z); (try clear zf); have S3 : Aside0 (Rd w wb2 g g2 g7 s (t3 s) #[.int .i64 (wrap64 (rv s 1 (0, 0))), .int .i64 (wrap64 (rv s 1 (t1 s))), .int .i64 0, .int .u64 0, .int .i64 0, .slice none 0 0, .int .u64 0, .int .u64 0, .int .u64 0, .int .u64 0, .int .u64 0, .int .u64 0, .int .u64 0, .slice none 0 0, .slice none 0 0, .float .f64 0] _ _ _ _ _ _) := ⟨(S2.out.put 1 (.int .i64 (wrap64 (rv s 1 (t1 s))))).call (q' := t3 s) hi hb hk⟩; have z := S3.out.c7 2; have zf := S3.out.f7 2; clear hi hb hk S2)
    | (go_at_call 40; refine (rnumber_at w _ g s (t3 s) 8 (by decide) (by decide) HS.out (t3_le s) (S3.out.put 2 (.int .i64 (wrap64 (rv s 1 (t2 s))))).I (S3.out.put 2 (.int .i64 (wrap64 (rv s 1 (t2 s))))).B).mono ?_; rintro e wb3 ⟨rfl, hi, hb, hk⟩; (try clear z); (try clear zf); have S4 : Aside0 (Rd w wb3 g g2 g7 s (t4 s) #[.int .i64 (wrap64 (rv s 1 (0, 0))), .int .i64 (wrap64 (rv s 1 (t1 s))), .int .i64 (wrap64 (rv s 1 (t2 s))), .int .u64 0, .int .i64 0, .slice none 0 0, .int .u64 0, .int .u64 0, .int .u64 0, .int .u64 0, .int .u64 0, .int .u64 0, .int .u64 0, .slice none 0 0, .slice none 0 0, .float .f64 0] _ _ _ _ _ _) := ⟨(S3.out.put 2 (.int .i64 (wrap64 (rv s 1 (t2 s))))).call (q' := t4 s) hi hb hk⟩; have z := S4.out.c7 3; have zf := S4.out.f7 3; clear hi hb hk S3)
    | (go_at_call 40; refine (rnumber_at w _ g s (t4 s) 1 (by decide) (by decide) HS.out (t4_le s) (S4.out.put 3 (.int .u64 (rv s 8 (t3 s)))).I (S4.out.put 3 (.int .u64 (rv s 8 (t3 s)))).B).mono ?_; rintro e wb4 ⟨rfl, hi, hb, hk⟩; (try clear z); (try clear zf); have S5 : Aside0 (Rd w wb4 g g2 g7 s (t5 s) #[.int .i64 (wrap64 (rv s 1 (0, 0))), .int .i64 (wrap64 (rv s 1 (t1 s))), .int .i64 (wrap64 (rv s 1 (t2 s))), .int .u64 (rv s 8 (t3 s)), .int .i64 0, .slice none 0 0, .int .u64 0, .int .u64 0, .int .u64 0, .int .u64 0, .int .u64 0, .int .u64 0, .int .u64 0, .slice none 0 0, .slice none 0 0, .float .f64 0] _ _ _ _ _ _) := ⟨(S4.out.put 3 (.int .u64 (rv s 8 (t3 s)))).call (q' := t5 s) hi hb hk⟩; have z := S5.out.c7 4; have zf := S5.out.f7 4; clear hi hb hk S4)
    | (go_at_call 41; refine (rmany_at w _ g s (t5 s) 8 (by decide) HS.out (t5_le s) (S5.out.put 4 (.int .i64 (wrap64 (rv s 1 (t4 s))))).I (S5.out.put 4 (.int .i64 (wrap64 (rv s 1 (t4 s))))).B).mono ?_; rintro e wb5 ⟨rfl, hi, hb, hk⟩; rw [HU.out]; (try clear z); (try clear zf); have S6 : Aside0 (Rd w wb5 g g2 g7 s (t6 s) #[.int .i64 (wrap64 (rv s 1 (0, 0))), .int .i64 (wrap64 (rv s 1 (t1 s))), .int .i64 (wrap64 (rv s 1 (t2 s))), .int .u64 (rv s 8 (t3 s)), .int .i64 (wrap64 (rv s 1 (t4 s))), .slice none 0 0, .int .u64 0, .int .u64 0, .int .u64 0, .int .u64 0, .int .u64 0, .int .u64 0, .int .u64 0, .slice none 0 0, .slice none 0 0, .float .f64 0] _ _ _ _ _ _) := ⟨(S5.out.put 4 (.int .i64 (wrap64 (rv s 1 (t4 s))))).call (q' := t6 s) hi hb hk⟩; clear hi hb hk S5))
  go_loopw [9] (fun i wr => ∃ (j : Nat) (v : Value), i = .int .i64 j ∧ Aside0 (j ≤ nu) ∧ Aside0 (Rd w wr g g2 g7 s (its (uS s) (uN s) (t6 s) j).1 #[.int .i64 (wrap64 (rv s 1 (0, 0))), .int .i64 (wrap64 (rv s 1 (t1 s))), .int .i64 (wrap64 (rv s 1 (t2 s))), .int .u64 (rv s 8 (t3 s)), .int .i64 (wrap64 (rv s 1 (t4 s))), v, .int .u64 0, .int .u64 0, .int .u64 0, .int .u64 0, .int .u64 0, .int .u64 0, .int .u64 0, .slice none 0 0, .slice none 0 0, .float .f64 0] v (.slice none 0 0) (.slice none 0 0) (its (uS s) (uN s) (t6 s) j).2 [] []))
    (fun i _ => nu - (intOf i).toNat)
  case atStart => exact ⟨0, .slice none 0 0, rfl, ⟨Nat.zero_le _⟩, S6⟩
  case round =>
    obtain ⟨j, v, rfl, hj, S⟩ := hrel
    clear S6
    by_cases hlt : j < nu
    · have HL : Aside0 ((its (uS s) (uN s) (t6 s) j).1.1 ≤ s.size) := ⟨its_le (fun st h => uN_le st h) (t6_le s) j⟩
      have HN := Aside0.mk (its_len (uS s) (uN s) (t6 s) j)
      have HIT : Aside0 (its (uS s) (uN s) (t6 s) (j + 1) = (uN s (its (uS s) (uN s) (t6 s) j).1, (its (uS s) (uN s) (t6 s) j).2 ++ [uS s (its (uS s) (uN s) (t6 s) j).1])) := ⟨rfl⟩
      generalize its (uS s) (uN s) (t6 s) j = r0 at HIT HN HL S
      obtain ⟨q, acc⟩ := r0
      dsimp only at HIT HN HL S
      obtain ⟨l1, hl1⟩ : ∃ l, l = acc ++ [uS s q] := ⟨_, rfl⟩
      rw [← hl1] at HIT
      have HL1 := Aside0.mk hl1
      clear hl1
      have HLE : Aside0 ((acc.length + 1) * 24 ≤ 140737488355328) := ⟨by have := HN.out; have := HU2.out; omega⟩
      go_upto_region 19 with (first
        | ((with_reducible refine gate_dst (N := 10) rfl ?_); refine box_event ?hg (N := 10) ?hd (cs := #[.int .i64 0, .int .u64 0, .int .i64 0]) (t := 70) ?hr ?_; (case hd => rfl); (case hg => rfl); (case hr => first | (go_simp; done) | (go_simp; rfl)); intro x hg_ w1 hb_ hB_; have X1 := Aside0.mk hb_; have B1 := Aside0.mk hB_; have E1 := Aside0.mk hg_; clear hg_ hb_ hB_)
        | ((with_reducible refine gate_store (t := 70) (p := 10) rfl ?_); go_loud (refine wpList_store_row rfl 70 (.tmp 10) (.tmp 57) rfl x #[.int .i64 0, .int .u64 0, .int .i64 0] rfl rfl 70 #[.int .i64 0, .int .u64 0, .int .i64 0] X1.out si70 rfl oz70 ?_); have J0 := Aside0.mk (In.new (s := s) (st := q) (g := g) S.out.I S.out.B E1.out (setRow_heap w1 x #[.int .i64 0, .int .u64 0, .int .i64 0] #[.int .i64 0, .int .u64 0, .int .i64 0] 70 (0, 0) X1.out) (below_setRow B1.out (Nat.le_of_eq E1.out.symm) #[.int .i64 0, .int .u64 0, .int .i64 0])); generalize World.setRow _ _ _ = w2 at J0 ⊢; clear X1 B1 E1)
        | (go_at_call 40; refine (rnumber_at w _ g s q 1 (by decide) (by decide) HS.out (HL.out) (J0.out).I (J0.out).B).mono ?_; rintro e wd0 ⟨rfl, hi, hb, hk⟩; (try clear z); (try clear zf); have J1 : Aside0 (In w _ wd0 g x s (nx s 1 q) #[.int .i64 0, .int .u64 0, .int .i64 0] 70) := ⟨(J0.out).call (q' := (nx s 1 q)) hi hb hk⟩; have z := J1.out.cx 0; have zf := J1.out.fx 0; clear hi hb hk J0)
        | (go_at_call 40; refine (rnumber_at w _ g s (nx s 1 q) 8 (by decide) (by decide) HS.out (nx_le (HL.out)) (J1.out.put 0 (.int .i64 (wrap64 (rv s 1 q)))).I (J1.out.put 0 (.int .i64 (wrap64 (rv s 1 q)))).B).mono ?_; rintro e wd1 ⟨rfl, hi, hb, hk⟩; (try clear z); (try clear zf); have J2 : Aside0 (In w _ wd1 g x s (nx s 8 (nx s 1 q)) #[.int .i64 (wrap64 (rv s 1 q)), .int .u64 0, .int .i64 0] 70) := ⟨(J1.out.put 0 (.int .i64 (wrap64 (rv s 1 q)))).call (q' := (nx s 8 (nx s 1 q))) hi hb hk⟩; have z := J2.out.cx 1; have zf := J2.out.fx 1; clear hi hb hk J1)
        | (go_at_call 40; refine (rnumber_at w _ g s (nx s 8 (nx s 1 q)) 1 (by decide) (by decide) HS.out (nx_le (nx_le (HL.out))) (J2.out.put 1 (.int .u64 (rv s 8 (nx s 1 q)))).I (J2.out.put 1 (.int .u64 (rv s 8 (nx s 1 q)))).B).mono ?_; rintro e wd2 ⟨rfl, hi, hb, hk⟩; (try clear z); (try clear zf); have J3 : Aside0 (In w _ wd2 g x s (nx s 1 (nx s 8 (nx s 1 q))) #[.int .i64 (wrap64 (rv s 1 q)), .int .u64 (rv s 8 (nx s 1 q)), .int .i64 0] 70) := ⟨(J2.out.put 1 (.int .u64 (rv s 8 (nx s 1 q)))).call (q' := (nx s 1 (nx s 8 (nx s 1 q)))) hi hb hk⟩; have z := J3.out.cx 2; have zf := J3.out.fx 2; clear hi hb hk J2))
      have Q : Aside0 (Rd w _ g g2 g7 s (uN s q) #[.int .i64 (wrap64 (rv s 1 (0, 0))), .int .i64 (wrap64 (rv s 1 (t1 s))), .int .i64 (wrap64 (rv s 1 (t2 s))), .int .u64 (rv s 8 (t3 s)), .int .i64 (wrap64 (rv s 1 (t4 s))), v, .int .u64 0, .int .u64 0, .int .u64 0, .int .u64 0, .int .u64 0, .int .u64 0, .int .u64 0, .slice none 0 0, .slice none 0 0, .float .f64 0] v (.slice none 0 0) (.slice none 0 0) acc [] []) := ⟨S.out.call (q' := uN s q) (J3.out.put 2 (.int .i64 (wrap64 (rv s 1 (nx s 8 (nx s 1 q)))))).I (J3.out.put 2 (.int .i64 (wrap64 (rv s 1 (nx s 8 (nx s 1 q)))))).B (J3.out.put 2 (.int .i64 (wrap64 (rv s 1 (nx s 8 (nx s 1 q)))))).K⟩
      have X : Aside0 (_) := ⟨(J3.out.put 2 (.int .i64 (wrap64 (rv s 1 (nx s 8 (nx s 1 q)))))).X⟩
      clear z zf J3
      generalize World.setCell _ _ _ = wq at Q X ⊢
      have X : Aside0 (wq.heap[x]? = some (.cells #[.int .i64 (uS s q).f0, .int .u64 (uS s q).f1, .int .i64 (uS s q).f2] 70 (0, 0))) := ⟨by have h := X.out; (try simp only [rv_w] at h); exact h⟩
      have z := Q.out.c7 5
      have zf := Q.out.f7 5
      go_wp2_with (first
        | (refine wpList_load_row rfl 70 (.tmp 10) rfl x rfl 70 #[.int .i64 (uS s q).f0, .int .u64 (uS s q).f1, .int .i64 (uS s q).f2] (0, 0) _ X.out Try.underlying70 rfl si70 ?_)
        | ((with_reducible refine gate_builtin (b := .append) (xs := #[.tmp 70, .tmp 72]) rfl ?_); at_builtin; go_loud (refine Kd.R_append k70 (w0 := w) w.heap.size rfl (.tmp 70) (.tmp 72) 25 70 (.agg #[.int .i64 0, .int .u64 0, .int .i64 0]) 24 rfl Try.underlying25 info70 rfl (by decide) (by omega) v acc (uS s q) [.int .i64 (uS s q).f0, .int .u64 (uS s q).f1, .int .i64 (uS s q).f2] (fun _ => True) (fun _ => False) rfl rfl ?aP (fun _ hk => hk.elim) ?aF ?aO ?aB ?aS ?aL ?_); (case aP => exact k70_mkM _ _ _ (uS s q)); (case aF => exact fun _ _ => trivial); (case aO => exact Q.out.R5); (case aB => exact Q.out.B); (case aS => exact Q.out.B.size); (case aL => exact HLE.out); intro v1 w4 ho hb2 hg hat; rw [← HL1.out] at ho; obtain ⟨A1, c1, rfl⟩ := Kd.R_slice ho; have Q1 := Aside0.mk (Q.out.row5 ho hb2 hg); clear z zf; have z := Q1.out.c7 5; have zf := Q1.out.f7 5; clear ho hb2 hg hat Q))
      go_roundw
      case rel => exact ⟨j + 1, .slice A1 l1.length c1, by go_num, ⟨hlt⟩, ⟨by rw [HIT.out]; exact Q1.out.put 5 (.slice A1 l1.length c1)⟩⟩
      case measure => have := HU2.out; simp [intOf]; omega
    · have hjn : j = nu := by have := hj.out; omega
      have SV : Aside0 (Rd w _ g g2 g7 s (t7 s) #[.int .i64 (wrap64 (rv s 1 (0, 0))), .int .i64 (wrap64 (rv s 1 (t1 s))), .int .i64 (wrap64 (rv s 1 (t2 s))), .int .u64 (rv s 8 (t3 s)), .int .i64 (wrap64 (rv s 1 (t4 s))), v, .int .u64 0, .int .u64 0, .int .u64 0, .int .u64 0, .int .u64 0, .int .u64 0, .int .u64 0, .slice none 0 0, .slice none 0 0, .float .f64 0] v (.slice none 0 0) (.slice none 0 0) (lU s) [] []) := ⟨by have h := S.out; rw [hjn, UE.out] at h; exact h⟩
      obtain ⟨A5, c5, rfl⟩ := Kd.R_slice SV.out.R5
      have S7 := SV
      clear S SV
      go_wp2_with (first
          | (go_at_call 40; refine (rnumber_at w _ g s (t7 s) 8 (by decide) (by decide) HS.out (t7_le s) (S7.out).I (S7.out).B).mono ?_; rintro e wb7 ⟨rfl, hi, hb, hk⟩; (try clear z); (try clear zf); have S8 : Aside0 (Rd w wb7 g g2 g7 s (t8 s) #[.int .i64 (wrap64 (rv s 1 (0, 0))), .int .i64 (wrap64 (rv s 1 (t1 s))), .int .i64 (wrap64 (rv s 1 (t2 s))), .int .u64 (rv s 8 (t3 s)), .int .i64 (wrap64 (rv s 1 (t4 s))), .slice A5 (lU s).length c5, .int .u64 0, .int .u64 0, .int .u64 0, .int .u64 0, .int .u64 0, .int .u64 0, .int .u64 0, .slice none 0 0, .slice none 0 0, .float .f64 0] _ _ _ _ _ _) := ⟨(S7.out).call (q' := t8 s) hi hb hk⟩; have z := S8.out.c7 6; have zf := S8.out.f7 6; clear hi hb hk S7)
          | (go_at_call 40; refine (rnumber_at w _ g s (t8 s) 8 (by decide) (by decide) HS.out (t8_le s) (S8.out.put 6 (.int .u64 (rv s 8 (t7 s)))).I (S8.out.put 6 (.int .u64 (rv s 8 (t7 s)))).B).mono ?_; rintro e wb8 ⟨rfl, hi, hb, hk⟩; (try clear z); (try clear zf); have S9 : Aside0 (Rd w wb8 g g2 g7 s (t9 s) #[.int .i64 (wrap64 (rv s 1 (0, 0))), .int .i64 (wrap64 (rv s 1 (t1 s))), .int .i64 (wrap64 (rv s 1 (t2 s))), .int .u64 (rv s 8 (t3 s)), .int .i64 (wrap64 (rv s 1 (t4 s))), .slice A5 (lU s).length c5, .int .u64 (rv s 8 (t7 s)), .int .u64 0, .int .u64 0, .int .u64 0, .int .u64 0, .int .u64 0, .int .u64 0, .slice none 0 0, .slice none 0 0, .float .f64 0] _ _ _ _ _ _) := ⟨(S8.out.put 6 (.int .u64 (rv s 8 (t7 s)))).call (q' := t9 s) hi hb hk⟩; have z := S9.out.c7 7; have zf := S9.out.f7 7; clear hi hb hk S8)
          | (go_at_call 40; refine (rnumber_at w _ g s (t9 s) 8 (by decide) (by decide) HS.out (t9_le s) (S9.out.put 7 (.int .u64 (rv s 8 (t8 s)))).I (S9.out.put 7 (.int .u64 (rv s 8 (t8 s)))).B).mono ?_; rintro e wb9 ⟨rfl, hi, hb, hk⟩; (try clear z); (try clear zf); have S10 : Aside0 (Rd w wb9 g g2 g7 s (t10 s) #[.int .i64 (wrap64 (rv s 1 (0, 0))), .int .i64 (wrap64 (rv s 1 (t1 s))), .int .i64 (wrap64 (rv s 1 (t2 s))), .int .u64 (rv s 8 (t3 s)), .int .i64 (wrap64 (rv s 1 (t4 s))), .slice A5 (lU s).length c5, .int .u64 (rv s 8 (t7 s)), .int .u64 (rv s 8 (t8 s)), .int .u64 0, .int .u64 0, .int .u64 0, .int .u64 0, .int .u64 0, .slice none 0 0, .slice none 0 0, .float .f64 0] _ _ _ _ _ _) := ⟨(S9.out.put 7 (.int .u64 (rv s 8 (t8 s)))).call (q' := t10 s) hi hb hk⟩; have z := S10.out.c7 8; have zf := S10.out.f7 8; clear hi hb hk S9)
          | (go_at_call 40; refine (rnumber_at w _ g s (t10 s) 8 (by decide) (by decide) HS.out (t10_le s) (S10.out.put 8 (.int .u64 (rv s 8 (t9 s)))).I (S10.out.put 8 (.int .u64 (rv s 8 (t9 s)))).B).mono ?_; rintro e wb10 ⟨rfl, hi, hb, hk⟩; (try clear z); (try clear zf); have S11 : Aside0 (Rd w wb10 g g2 g7 s (t11 s) #[.int .i64 (wrap64 (rv s 1 (0, 0))), .int .i64 (wrap64 (rv s 1 (t1 s))), .int .i64 (wrap64 (rv s 1 (t2 s))), .int .u64 (rv s 8 (t3 s)), .int .i64 (wrap64 (rv s 1 (t4 s))), .slice A5 (lU s).length c5, .int .u64 (rv s 8 (t7 s)), .int .u64 (rv s 8 (t8 s)), .int .u64 (rv s 8 (t9 s)), .int .u64 0, .int .u64 0, .int .u64 0, .int .u64 0, .slice none 0 0, .slice none 0 0, .float .f64 0] _ _ _ _ _ _) := ⟨(S10.out.put 8 (.int .u64 (rv s 8 (t9 s)))).call (q' := t11 s) hi hb hk⟩; have z := S11.out.c7 9; have zf := S11.out.f7 9; clear hi hb hk S10)
          | (go_at_call 40; refine (rnumber_at w _ g s (t11 s) 8 (by decide) (by decide) HS.out (t11_le s) (S11.out.put 9 (.int .u64 (rv s 8 (t10 s)))).I (S11.out.put 9 (.int .u64 (rv s 8 (t10 s)))).B).mono ?_; rintro e wb11 ⟨rfl, hi, hb, hk⟩; (try clear z); (try clear zf); have S12 : Aside0 (Rd w wb11 g g2 g7 s (t12 s) #[.int .i64 (wrap64 (rv s 1 (0, 0))), .int .i64 (wrap64 (rv s 1 (t1 s))), .int .i64 (wrap64 (rv s 1 (t2 s))), .int .u64 (rv s 8 (t3 s)), .int .i64 (wrap64 (rv s 1 (t4 s))), .slice A5 (lU s).length c5, .int .u64 (rv s 8 (t7 s)), .int .u64 (rv s 8 (t8 s)), .int .u64 (rv s 8 (t9 s)), .int .u64 (rv s 8 (t10 s)), .int .u64 0, .int .u64 0, .int .u64 0, .slice none 0 0, .slice none 0 0, .float .f64 0] _ _ _ _ _ _) := ⟨(S11.out.put 9 (.int .u64 (rv s 8 (t10 s)))).call (q' := t12 s) hi hb hk⟩; have z := S12.out.c7 10; have zf := S12.out.f7 10; clear hi hb hk S11)
          | (go_at_call 40; refine (rnumber_at w _ g s (t12 s) 8 (by decide) (by decide) HS.out (t12_le s) (S12.out.put 10 (.int .u64 (rv s 8 (t11 s)))).I (S12.out.put 10 (.int .u64 (rv s 8 (t11 s)))).B).mono ?_; rintro e wb12 ⟨rfl, hi, hb, hk⟩; (try clear z); (try clear zf); have S13 : Aside0 (Rd w wb12 g g2 g7 s (t13 s) #[.int .i64 (wrap64 (rv s 1 (0, 0))), .int .i64 (wrap64 (rv s 1 (t1 s))), .int .i64 (wrap64 (rv s 1 (t2 s))), .int .u64 (rv s 8 (t3 s)), .int .i64 (wrap64 (rv s 1 (t4 s))), .slice A5 (lU s).length c5, .int .u64 (rv s 8 (t7 s)), .int .u64 (rv s 8 (t8 s)), .int .u64 (rv s 8 (t9 s)), .int .u64 (rv s 8 (t10 s)), .int .u64 (rv s 8 (t11 s)), .int .u64 0, .int .u64 0, .slice none 0 0, .slice none 0 0, .float .f64 0] _ _ _ _ _ _) := ⟨(S12.out.put 10 (.int .u64 (rv s 8 (t11 s)))).call (q' := t13 s) hi hb hk⟩; have z := S13.out.c7 11; have zf := S13.out.f7 11; clear hi hb hk S12)
          | (go_at_call 40; refine (rnumber_at w _ g s (t13 s) 8 (by decide) (by decide) HS.out (t13_le s) (S13.out.put 11 (.int .u64 (rv s 8 (t12 s)))).I (S13.out.put 11 (.int .u64 (rv s 8 (t12 s)))).B).mono ?_; rintro e wb13 ⟨rfl, hi, hb, hk⟩; (try clear z); (try clear zf); have S14 : Aside0 (Rd w wb13 g g2 g7 s (t14 s) #[.int .i64 (wrap64 (rv s 1 (0, 0))), .int .i64 (wrap64 (rv s 1 (t1 s))), .int .i64 (wrap64 (rv s 1 (t2 s))), .int .u64 (rv s 8 (t3 s)), .int .i64 (wrap64 (rv s 1 (t4 s))), .slice A5 (lU s).length c5, .int .u64 (rv s 8 (t7 s)), .int .u64 (rv s 8 (t8 s)), .int .u64 (rv s 8 (t9 s)), .int .u64 (rv s 8 (t10 s)), .int .u64 (rv s 8 (t11 s)), .int .u64 (rv s 8 (t12 s)), .int .u64 0, .slice none 0 0, .slice none 0 0, .float .f64 0] _ _ _ _ _ _) := ⟨(S13.out.put 11 (.int .u64 (rv s 8 (t12 s)))).call (q' := t14 s) hi hb hk⟩; have z := S14.out.c7 12; have zf := S14.out.f7 12; clear hi hb hk S13)
          | (go_at_call 41; refine (rmany_at w _ g s (t14 s) 6 (by decide) HS.out (t14_le s) (S14.out.put 12 (.int .u64 (rv s 8 (t13 s)))).I (S14.out.put 12 (.int .u64 (rv s 8 (t13 s)))).B).mono ?_; rintro e wb14 ⟨rfl, hi, hb, hk⟩; rw [HP.out]; (try clear z); (try clear zf); have S15 : Aside0 (Rd w wb14 g g2 g7 s (t15 s) #[.int .i64 (wrap64 (rv s 1 (0, 0))), .int .i64 (wrap64 (rv s 1 (t1 s))), .int .i64 (wrap64 (rv s 1 (t2 s))), .int .u64 (rv s 8 (t3 s)), .int .i64 (wrap64 (rv s 1 (t4 s))), .slice A5 (lU s).length c5, .int .u64 (rv s 8 (t7 s)), .int .u64 (rv s 8 (t8 s)), .int .u64 (rv s 8 (t9 s)), .int .u64 (rv s 8 (t10 s)), .int .u64 (rv s 8 (t11 s)), .int .u64 (rv s 8 (t12 s)), .int .u64 (rv s 8 (t13 s)), .slice none 0 0, .slice none 0 0, .float .f64 0] _ _ _ _ _ _) := ⟨(S14.out.put 12 (.int .u64 (rv s 8 (t13 s)))).call (q' := t15 s) hi hb hk⟩; clear hi hb hk S14))
      go_loopw [12] (fun i wr => ∃ (j : Nat) (v : Value), i = .int .i64 j ∧ Aside0 (j ≤ np) ∧ Aside0 (Rd w wr g g2 g7 s (its (pS s) (pN s) (t15 s) j).1 #[.int .i64 (wrap64 (rv s 1 (0, 0))), .int .i64 (wrap64 (rv s 1 (t1 s))), .int .i64 (wrap64 (rv s 1 (t2 s))), .int .u64 (rv s 8 (t3 s)), .int .i64 (wrap64 (rv s 1 (t4 s))), .slice A5 (lU s).length c5, .int .u64 (rv s 8 (t7 s)), .int .u64 (rv s 8 (t8 s)), .int .u64 (rv s 8 (t9 s)), .int .u64 (rv s 8 (t10 s)), .int .u64 (rv s 8 (t11 s)), .int .u64 (rv s 8 (t12 s)), .int .u64 (rv s 8 (t13 s)), v, .slice none 0 0, .float .f64 0] (.slice A5 (lU s).length c5) v (.slice none 0 0) (lU s) (its (pS s) (pN s) (t15 s) j).2 []))
        (fun i _ => np - (intOf i).toNat)
      case atStart => exact ⟨0, .slice none 0 0, rfl, ⟨Nat.zero_le _⟩, S15⟩
      case round =>
        obtain ⟨j, v, rfl, hj, S⟩ := hrel
        clear S15
        by_cases hlt : j < np
        · have HL : Aside0 ((its (pS s) (pN s) (t15 s) j).1.1 ≤ s.size) := ⟨its_le (fun st h => pN_le st h) (t15_le s) j⟩
          have HN := Aside0.mk (its_len (pS s) (pN s) (t15 s) j)
          have HIT : Aside0 (its (pS s) (pN s) (t15 s) (j + 1) = (pN s (its (pS s) (pN s) (t15 s) j).1, (its (pS s) (pN s) (t15 s) j).2 ++ [pS s (its (pS s) (pN s) (t15 s) j).1])) := ⟨rfl⟩
          generalize its (pS s) (pN s) (t15 s) j = r0 at HIT HN HL S
          obtain ⟨q, acc⟩ := r0
          dsimp only at HIT HN HL S
          obtain ⟨l1, hl1⟩ : ∃ l, l = acc ++ [pS s q] := ⟨_, rfl⟩
          rw [← hl1] at HIT
          have HL1 := Aside0.mk hl1
          clear hl1
          have HLE : Aside0 ((acc.length + 1) * 40 ≤ 140737488355328) := ⟨by have := HN.out; have := HP2.out; omega⟩
          go_upto_region 36 with (first
            | ((with_reducible refine gate_dst (N := 13) rfl ?_); refine box_event ?hg (N := 13) ?hd (cs := #[.int .u64 0, .int .i64 0, .int .u64 0, .string ⟨#[]⟩]) (t := 90) ?hr ?_; (case hd => rfl); (case hg => rfl); (case hr => first | (go_simp; done) | (go_simp; rfl)); intro x hg_ w1 hb_ hB_; have X1 := Aside0.mk hb_; have B1 := Aside0.mk hB_; have E1 := Aside0.mk hg_; clear hg_ hb_ hB_)
            | ((with_reducible refine gate_store (t := 90) (p := 13) rfl ?_); go_loud (refine wpList_store_row rfl 90 (.tmp 13) (.tmp 107) rfl x #[.int .u64 0, .int .i64 0, .int .u64 0, .string ⟨#[]⟩] rfl rfl 90 #[.int .u64 0, .int .i64 0, .int .u64 0, .string ⟨#[]⟩] X1.out si90 rfl oz90 ?_); have J0 := Aside0.mk (In.new (s := s) (st := q) (g := g) S.out.I S.out.B E1.out (setRow_heap w1 x #[.int .u64 0, .int .i64 0, .int .u64 0, .string ⟨#[]⟩] #[.int .u64 0, .int .i64 0, .int .u64 0, .string ⟨#[]⟩] 90 (0, 0) X1.out) (below_setRow B1.out (Nat.le_of_eq E1.out.symm) #[.int .u64 0, .int .i64 0, .int .u64 0, .string ⟨#[]⟩])); generalize World.setRow _ _ _ = w2 at J0 ⊢; clear X1 B1 E1)
            | (go_at_call 40; refine (rnumber_at w _ g s q 8 (by decide) (by decide) HS.out (HL.out) (J0.out).I (J0.out).B).mono ?_; rintro e wd0 ⟨rfl, hi, hb, hk⟩; (try clear z); (try clear zf); have J1 : Aside0 (In w _ wd0 g x s (nx s 8 q) #[.int .u64 0, .int .i64 0, .int .u64 0, .string ⟨#[]⟩] 90) := ⟨(J0.out).call (q' := (nx s 8 q)) hi hb hk⟩; have z := J1.out.cx 0; have zf := J1.out.fx 0; clear hi hb hk J0)
            | (go_at_call 40; refine (rnumber_at w _ g s (nx s 8 q) 1 (by decide) (by decide) HS.out (nx_le (HL.out)) (J1.out.put 0 (.int .u64 (rv s 8 q))).I (J1.out.put 0 (.int .u64 (rv s 8 q))).B).mono ?_; rintro e wd1 ⟨rfl, hi, hb, hk⟩; (try clear z); (try clear zf); have J2 : Aside0 (In w _ wd1 g x s (nx s 1 (nx s 8 q)) #[.int .u64 (rv s 8 q), .int .i64 0, .int .u64 0, .string ⟨#[]⟩] 90) := ⟨(J1.out.put 0 (.int .u64 (rv s 8 q))).call (q' := (nx s 1 (nx s 8 q))) hi hb hk⟩; have z := J2.out.cx 1; have zf := J2.out.fx 1; clear hi hb hk J1)
            | (go_at_call 40; refine (rnumber_at w _ g s (nx s 1 (nx s 8 q)) 8 (by decide) (by decide) HS.out (nx_le (nx_le (HL.out))) (J2.out.put 1 (.int .i64 (wrap64 (rv s 1 (nx s 8 q))))).I (J2.out.put 1 (.int .i64 (wrap64 (rv s 1 (nx s 8 q))))).B).mono ?_; rintro e wd2 ⟨rfl, hi, hb, hk⟩; (try clear z); (try clear zf); have J3 : Aside0 (In w _ wd2 g x s (nx s 8 (nx s 1 (nx s 8 q))) #[.int .u64 (rv s 8 q), .int .i64 (wrap64 (rv s 1 (nx s 8 q))), .int .u64 0, .string ⟨#[]⟩] 90) := ⟨(J2.out.put 1 (.int .i64 (wrap64 (rv s 1 (nx s 8 q))))).call (q' := (nx s 8 (nx s 1 (nx s 8 q)))) hi hb hk⟩; have z := J3.out.cx 2; have zf := J3.out.fx 2; clear hi hb hk J2)
            | (go_at_call 42; refine (rtext_at w _ g s (nx s 8 (nx s 1 (nx s 8 q))) HS.out (nx_le (nx_le (nx_le (HL.out)))) (J3.out.put 2 (.int .u64 (rv s 8 (nx s 1 (nx s 8 q))))).I (J3.out.put 2 (.int .u64 (rv s 8 (nx s 1 (nx s 8 q))))).B).mono ?_; rintro e wd3 ⟨rfl, hi, hb, hk⟩; (try clear z); (try clear zf); have J4 : Aside0 (In w _ wd3 g x s (tx s (nx s 8 (nx s 1 (nx s 8 q)))) #[.int .u64 (rv s 8 q), .int .i64 (wrap64 (rv s 1 (nx s 8 q))), .int .u64 (rv s 8 (nx s 1 (nx s 8 q))), .string ⟨#[]⟩] 90) := ⟨(J3.out.put 2 (.int .u64 (rv s 8 (nx s 1 (nx s 8 q))))).call (q' := (tx s (nx s 8 (nx s 1 (nx s 8 q))))) hi hb hk⟩; have z := J4.out.cx 3; have zf := J4.out.fx 3; clear hi hb hk J3))
          have Q : Aside0 (Rd w _ g g2 g7 s (pN s q) #[.int .i64 (wrap64 (rv s 1 (0, 0))), .int .i64 (wrap64 (rv s 1 (t1 s))), .int .i64 (wrap64 (rv s 1 (t2 s))), .int .u64 (rv s 8 (t3 s)), .int .i64 (wrap64 (rv s 1 (t4 s))), .slice A5 (lU s).length c5, .int .u64 (rv s 8 (t7 s)), .int .u64 (rv s 8 (t8 s)), .int .u64 (rv s 8 (t9 s)), .int .u64 (rv s 8 (t10 s)), .int .u64 (rv s 8 (t11 s)), .int .u64 (rv s 8 (t12 s)), .int .u64 (rv s 8 (t13 s)), v, .slice none 0 0, .float .f64 0] (.slice A5 (lU s).length c5) v (.slice none 0 0) (lU s) acc []) := ⟨S.out.call (q' := pN s q) (J4.out.put 3 (.string (tv s (nx s 8 (nx s 1 (nx s 8 q)))))).I (J4.out.put 3 (.string (tv s (nx s 8 (nx s 1 (nx s 8 q)))))).B (J4.out.put 3 (.string (tv s (nx s 8 (nx s 1 (nx s 8 q)))))).K⟩
          have X : Aside0 (_) := ⟨(J4.out.put 3 (.string (tv s (nx s 8 (nx s 1 (nx s 8 q)))))).X⟩
          clear z zf J4
          generalize World.setCell _ _ _ = wq at Q X ⊢
          have X : Aside0 (wq.heap[x]? = some (.cells #[.int .u64 (pS s q).f0, .int .i64 (pS s q).f1.f0, .int .u64 (pS s q).f1.f1, .string (pS s q).f1.f2] 90 (0, 0))) := ⟨by have h := X.out; (try simp only [rv_w] at h); exact h⟩
          have z := Q.out.c7 13
          have zf := Q.out.f7 13
          go_wp2_with (first
            | (refine wpList_load_row rfl 90 (.tmp 13) rfl x rfl 90 #[.int .u64 (pS s q).f0, .int .i64 (pS s q).f1.f0, .int .u64 (pS s q).f1.f1, .string (pS s q).f1.f2] (0, 0) _ X.out Try.underlying90 rfl si90 ?_)
            | ((with_reducible refine gate_builtin (b := .append) (xs := #[.tmp 125, .tmp 127]) rfl ?_); at_builtin; go_loud (refine Kd.R_append k90 (w0 := w) w.heap.size rfl (.tmp 125) (.tmp 127) 36 90 (.agg #[.int .u64 0, .int .i64 0, .int .u64 0, .string ⟨#[]⟩]) 40 rfl Try.underlying36 info90 rfl (by decide) (by omega) v acc (pS s q) [.int .u64 (pS s q).f0, .int .i64 (pS s q).f1.f0, .int .u64 (pS s q).f1.f1, .string (pS s q).f1.f2] (fun _ => True) (fun _ => False) rfl rfl ?aP (fun _ hk => hk.elim) ?aF ?aO ?aB ?aS ?aL ?_); (case aP => exact k90_mkM _ _ _ (pS s q)); (case aF => exact fun _ _ => trivial); (case aO => exact Q.out.R13); (case aB => exact Q.out.B); (case aS => exact Q.out.B.size); (case aL => exact HLE.out); intro v1 w4 ho hb2 hg hat; rw [← HL1.out] at ho; obtain ⟨A1, c1, rfl⟩ := Kd.R_slice ho; have Q1 := Aside0.mk (Q.out.row13 ho hb2 hg); clear z zf; have z := Q1.out.c7 13; have zf := Q1.out.f7 13; clear ho hb2 hg hat Q))
          go_roundw
          case rel => exact ⟨j + 1, .slice A1 l1.length c1, by go_num, ⟨hlt⟩, ⟨by rw [HIT.out]; exact Q1.out.put 13 (.slice A1 l1.length c1)⟩⟩
          case measure => have := HP2.out; simp [intOf]; omega
        · have hjn : j = np := by have := hj.out; omega
          have SV : Aside0 (Rd w _ g g2 g7 s (t16 s) #[.int .i64 (wrap64 (rv s 1 (0, 0))), .int .i64 (wrap64 (rv s 1 (t1 s))), .int .i64 (wrap64 (rv s 1 (t2 s))), .int .u64 (rv s 8 (t3 s)), .int .i64 (wrap64 (rv s 1 (t4 s))), .slice A5 (lU s).length c5, .int .u64 (rv s 8 (t7 s)), .int .u64 (rv s 8 (t8 s)), .int .u64 (rv s 8 (t9 s)), .int .u64 (rv s 8 (t10 s)), .int .u64 (rv s 8 (t11 s)), .int .u64 (rv s 8 (t12 s)), .int .u64 (rv s 8 (t13 s)), v, .slice none 0 0, .float .f64 0] (.slice A5 (lU s).length c5) v (.slice none 0 0) (lU s) (lP s) []) := ⟨by have h := S.out; rw [hjn, PE.out] at h; exact h⟩
          obtain ⟨A13, c13, rfl⟩ := Kd.R_slice SV.out.R13
          have S16 := SV
          clear S SV
          go_wp2_with (first
              | (go_at_call 41; refine (rmany_at w _ g s (t16 s) 16 (by decide) HS.out (t16_le s) (S16.out).I (S16.out).B).mono ?_; rintro e wb16 ⟨rfl, hi, hb, hk⟩; rw [HX.out]; (try clear z); (try clear zf); have S17 : Aside0 (Rd w wb16 g g2 g7 s (t17 s) #[.int .i64 (wrap64 (rv s 1 (0, 0))), .int .i64 (wrap64 (rv s 1 (t1 s))), .int .i64 (wrap64 (rv s 1 (t2 s))), .int .u64 (rv s 8 (t3 s)), .int .i64 (wrap64 (rv s 1 (t4 s))), .slice A5 (lU s).length c5, .int .u64 (rv s 8 (t7 s)), .int .u64 (rv s 8 (t8 s)), .int .u64 (rv s 8 (t9 s)), .int .u64 (rv s 8 (t10 s)), .int .u64 (rv s 8 (t11 s)), .int .u64 (rv s 8 (t12 s)), .int .u64 (rv s 8 (t13 s)), .slice A13 (lP s).length c13, .slice none 0 0, .float .f64 0] _ _ _ _ _ _) := ⟨(S16.out).call (q' := t17 s) hi hb hk⟩; clear hi hb hk S16))
          go_loopw [15] (fun i wr => ∃ (j : Nat) (v : Value), i = .int .i64 j ∧ Aside0 (j ≤ nn) ∧ Aside0 (Rd w wr g g2 g7 s (its (xS s) (xN s) (t17 s) j).1 #[.int .i64 (wrap64 (rv s 1 (0, 0))), .int .i64 (wrap64 (rv s 1 (t1 s))), .int .i64 (wrap64 (rv s 1 (t2 s))), .int .u64 (rv s 8 (t3 s)), .int .i64 (wrap64 (rv s 1 (t4 s))), .slice A5 (lU s).length c5, .int .u64 (rv s 8 (t7 s)), .int .u64 (rv s 8 (t8 s)), .int .u64 (rv s 8 (t9 s)), .int .u64 (rv s 8 (t10 s)), .int .u64 (rv s 8 (t11 s)), .int .u64 (rv s 8 (t12 s)), .int .u64 (rv s 8 (t13 s)), .slice A13 (lP s).length c13, v, .float .f64 0] (.slice A5 (lU s).length c5) (.slice A13 (lP s).length c13) v (lU s) (lP s) (its (xS s) (xN s) (t17 s) j).2))
            (fun i _ => nn - (intOf i).toNat)
          case atStart => exact ⟨0, .slice none 0 0, rfl, ⟨Nat.zero_le _⟩, S17⟩
          case round =>
            obtain ⟨j, v, rfl, hj, S⟩ := hrel
            clear S17
            by_cases hlt : j < nn
            · have HL : Aside0 ((its (xS s) (xN s) (t17 s) j).1.1 ≤ s.size) := ⟨its_le (fun st h => xN_le st h) (t17_le s) j⟩
              have HN := Aside0.mk (its_len (xS s) (xN s) (t17 s) j)
              have HIT : Aside0 (its (xS s) (xN s) (t17 s) (j + 1) = (xN s (its (xS s) (xN s) (t17 s) j).1, (its (xS s) (xN s) (t17 s) j).2 ++ [xS s (its (xS s) (xN s) (t17 s) j).1])) := ⟨rfl⟩
              generalize its (xS s) (xN s) (t17 s) j = r0 at HIT HN HL S
              obtain ⟨q, acc⟩ := r0
              dsimp only at HIT HN HL S
              obtain ⟨l1, hl1⟩ : ∃ l, l = acc ++ [xS s q] := ⟨_, rfl⟩
              rw [← hl1] at HIT
              have HL1 := Aside0.mk hl1
              clear hl1
              have HLE : Aside0 ((acc.length + 1) * 16 ≤ 140737488355328) := ⟨by have := HN.out; have := HX2.out; omega⟩
              go_upto_region 44 with (first
                | ((with_reducible refine gate_dst (N := 16) rfl ?_); refine box_event ?hg (N := 16) ?hd (cs := #[.int .u64 0, .int .u64 0]) (t := 77) ?hr ?_; (case hd => rfl); (case hg => rfl); (case hr => first | (go_simp; done) | (go_simp; rfl)); intro x hg_ w1 hb_ hB_; have X1 := Aside0.mk hb_; have B1 := Aside0.mk hB_; have E1 := Aside0.mk hg_; clear hg_ hb_ hB_)
                | ((with_reducible refine gate_store (t := 77) (p := 16) rfl ?_); go_loud (refine wpList_store_row rfl 77 (.tmp 16) (.tmp 137) rfl x #[.int .u64 0, .int .u64 0] rfl rfl 77 #[.int .u64 0, .int .u64 0] X1.out si77 rfl oz77 ?_); have J0 := Aside0.mk (In.new (s := s) (st := q) (g := g) S.out.I S.out.B E1.out (setRow_heap w1 x #[.int .u64 0, .int .u64 0] #[.int .u64 0, .int .u64 0] 77 (0, 0) X1.out) (below_setRow B1.out (Nat.le_of_eq E1.out.symm) #[.int .u64 0, .int .u64 0])); generalize World.setRow _ _ _ = w2 at J0 ⊢; clear X1 B1 E1)
                | (go_at_call 40; refine (rnumber_at w _ g s q 8 (by decide) (by decide) HS.out (HL.out) (J0.out).I (J0.out).B).mono ?_; rintro e wd0 ⟨rfl, hi, hb, hk⟩; (try clear z); (try clear zf); have J1 : Aside0 (In w _ wd0 g x s (nx s 8 q) #[.int .u64 0, .int .u64 0] 77) := ⟨(J0.out).call (q' := (nx s 8 q)) hi hb hk⟩; have z := J1.out.cx 0; have zf := J1.out.fx 0; clear hi hb hk J0)
                | (go_at_call 40; refine (rnumber_at w _ g s (nx s 8 q) 8 (by decide) (by decide) HS.out (nx_le (HL.out)) (J1.out.put 0 (.int .u64 (rv s 8 q))).I (J1.out.put 0 (.int .u64 (rv s 8 q))).B).mono ?_; rintro e wd1 ⟨rfl, hi, hb, hk⟩; (try clear z); (try clear zf); have J2 : Aside0 (In w _ wd1 g x s (nx s 8 (nx s 8 q)) #[.int .u64 (rv s 8 q), .int .u64 0] 77) := ⟨(J1.out.put 0 (.int .u64 (rv s 8 q))).call (q' := (nx s 8 (nx s 8 q))) hi hb hk⟩; have z := J2.out.cx 1; have zf := J2.out.fx 1; clear hi hb hk J1))
              have Q : Aside0 (Rd w _ g g2 g7 s (xN s q) #[.int .i64 (wrap64 (rv s 1 (0, 0))), .int .i64 (wrap64 (rv s 1 (t1 s))), .int .i64 (wrap64 (rv s 1 (t2 s))), .int .u64 (rv s 8 (t3 s)), .int .i64 (wrap64 (rv s 1 (t4 s))), .slice A5 (lU s).length c5, .int .u64 (rv s 8 (t7 s)), .int .u64 (rv s 8 (t8 s)), .int .u64 (rv s 8 (t9 s)), .int .u64 (rv s 8 (t10 s)), .int .u64 (rv s 8 (t11 s)), .int .u64 (rv s 8 (t12 s)), .int .u64 (rv s 8 (t13 s)), .slice A13 (lP s).length c13, v, .float .f64 0] (.slice A5 (lU s).length c5) (.slice A13 (lP s).length c13) v (lU s) (lP s) acc) := ⟨S.out.call (q' := xN s q) (J2.out.put 1 (.int .u64 (rv s 8 (nx s 8 q)))).I (J2.out.put 1 (.int .u64 (rv s 8 (nx s 8 q)))).B (J2.out.put 1 (.int .u64 (rv s 8 (nx s 8 q)))).K⟩
              have X : Aside0 (_) := ⟨(J2.out.put 1 (.int .u64 (rv s 8 (nx s 8 q)))).X⟩
              clear z zf J2
              generalize World.setCell _ _ _ = wq at Q X ⊢
              have X : Aside0 (wq.heap[x]? = some (.cells #[.int .u64 (xS s q).f0, .int .u64 (xS s q).f1] 77 (0, 0))) := ⟨by have h := X.out; (try simp only [rv_w] at h); exact h⟩
              have z := Q.out.c7 14
              have zf := Q.out.f7 14
              go_wp2_with (first
                | (refine wpList_load_row rfl 77 (.tmp 16) rfl x rfl 77 #[.int .u64 (xS s q).f0, .int .u64 (xS s q).f1] (0, 0) _ X.out Try.underlying77 rfl si77 ?_)
                | ((with_reducible refine gate_builtin (b := .append) (xs := #[.tmp 145, .tmp 147]) rfl ?_); at_builtin; go_loud (refine Kd.R_append k77 (w0 := w) w.heap.size rfl (.tmp 145) (.tmp 147) 29 77 (.agg #[.int .u64 0, .int .u64 0]) 16 rfl Try.underlying29 info77 rfl (by decide) (by omega) v acc (xS s q) [.int .u64 (xS s q).f0, .int .u64 (xS s q).f1] (fun _ => True) (fun _ => False) rfl rfl ?aP (fun _ hk => hk.elim) ?aF ?aO ?aB ?aS ?aL ?_); (case aP => exact k77_mkM _ _ _ (xS s q)); (case aF => exact fun _ _ => trivial); (case aO => exact Q.out.R14); (case aB => exact Q.out.B); (case aS => exact Q.out.B.size); (case aL => exact HLE.out); intro v1 w4 ho hb2 hg hat; rw [← HL1.out] at ho; obtain ⟨A1, c1, rfl⟩ := Kd.R_slice ho; have Q1 := Aside0.mk (Q.out.row14 ho hb2 hg); clear z zf; have z := Q1.out.c7 14; have zf := Q1.out.f7 14; clear ho hb2 hg hat Q))
              go_roundw
              case rel => exact ⟨j + 1, .slice A1 l1.length c1, by go_num, ⟨hlt⟩, ⟨by rw [HIT.out]; exact Q1.out.put 14 (.slice A1 l1.length c1)⟩⟩
              case measure => have := HX2.out; simp [intOf]; omega
            · have hjn : j = nn := by have := hj.out; omega
              have SV : Aside0 (Rd w _ g g2 g7 s (t18 s) #[.int .i64 (wrap64 (rv s 1 (0, 0))), .int .i64 (wrap64 (rv s 1 (t1 s))), .int .i64 (wrap64 (rv s 1 (t2 s))), .int .u64 (rv s 8 (t3 s)), .int .i64 (wrap64 (rv s 1 (t4 s))), .slice A5 (lU s).length c5, .int .u64 (rv s 8 (t7 s)), .int .u64 (rv s 8 (t8 s)), .int .u64 (rv s 8 (t9 s)), .int .u64 (rv s 8 (t10 s)), .int .u64 (rv s 8 (t11 s)), .int .u64 (rv s 8 (t12 s)), .int .u64 (rv s 8 (t13 s)), .slice A13 (lP s).length c13, v, .float .f64 0] (.slice A5 (lU s).length c5) (.slice A13 (lP s).length c13) v (lU s) (lP s) (lX s)) := ⟨by have h := S.out; rw [hjn, XE.out] at h; exact h⟩
              obtain ⟨A14, c14, rfl⟩ := Kd.R_slice SV.out.R14
              have S18 := SV
              clear S SV
              go_upto_region 46 with (first
                  | (go_at_call 40; refine (rnumber_at w _ g s (t18 s) 8 (by decide) (by decide) HS.out (t18_le s) (S18.out).I (S18.out).B).mono ?_; rintro e wb18 ⟨rfl, hi, hb, hk⟩; (try clear z); (try clear zf); have S19 : Aside0 (Rd w wb18 g g2 g7 s (t19 s) #[.int .i64 (wrap64 (rv s 1 (0, 0))), .int .i64 (wrap64 (rv s 1 (t1 s))), .int .i64 (wrap64 (rv s 1 (t2 s))), .int .u64 (rv s 8 (t3 s)), .int .i64 (wrap64 (rv s 1 (t4 s))), .slice A5 (lU s).length c5, .int .u64 (rv s 8 (t7 s)), .int .u64 (rv s 8 (t8 s)), .int .u64 (rv s 8 (t9 s)), .int .u64 (rv s 8 (t10 s)), .int .u64 (rv s 8 (t11 s)), .int .u64 (rv s 8 (t12 s)), .int .u64 (rv s 8 (t13 s)), .slice A13 (lP s).length c13, .slice A14 (lX s).length c14, .float .f64 0] _ _ _ _ _ _) := ⟨(S18.out).call (q' := t19 s) hi hb hk⟩; have z := S19.out.c7 15; have zf := S19.out.f7 15; clear hi hb hk S18)
                  | (go_at_call 43; refine (Go.Proofs.YtondgoabnmgcaaaO.R.float_at (rv s 8 (t18 s)) _).mono ?_; rintro e wf ⟨rfl, rfl⟩))
              have F : Aside0 (Rd w _ g g2 g7 s (t19 s) #[.int .i64 (wrap64 (rv s 1 (0, 0))), .int .i64 (wrap64 (rv s 1 (t1 s))), .int .i64 (wrap64 (rv s 1 (t2 s))), .int .u64 (rv s 8 (t3 s)), .int .i64 (wrap64 (rv s 1 (t4 s))), .slice A5 (lU s).length c5, .int .u64 (rv s 8 (t7 s)), .int .u64 (rv s 8 (t8 s)), .int .u64 (rv s 8 (t9 s)), .int .u64 (rv s 8 (t10 s)), .int .u64 (rv s 8 (t11 s)), .int .u64 (rv s 8 (t12 s)), .int .u64 (rv s 8 (t13 s)), .slice A13 (lP s).length c13, .slice A14 (lX s).length c14, .float .f64 (rbits (rv s 8 (t18 s)).toNat).toNat] (.slice A5 (lU s).length c5) (.slice A13 (lP s).length c13) (.slice A14 (lX s).length c14) (lU s) (lP s) (lX s)) := ⟨S19.out.put 15 (.float .f64 (rbits (rv s 8 (t18 s)).toNat).toNat)⟩
              clear z zf S19
              generalize World.setCell _ _ _ = wF at F ⊢
              have F : Aside0 (Rd w wF g g2 g7 s (t19 s) (cells38 (refL s) (.slice A5 (lU s).length c5) (.slice A13 (lP s).length c13) (.slice A14 (lX s).length c14)) (.slice A5 (lU s).length c5) (.slice A13 (lP s).length c13) (.slice A14 (lX s).length c14) (lU s) (lP s) (lX s)) := ⟨by have h := F.out; simp only [rv_w] at h; exact h⟩
              obtain ⟨KM, hKM⟩ : ∃ K, (lU s).length + (lP s).length + (lX s).length + 3 < K := ⟨_, Nat.lt_succ_self _⟩
              have HM : Aside0 (conventicleref15_May.f KM (rv s 1 (0, 0)) (rv s 1 (t1 s)) (rv s 1 (t2 s)) (rv s 8 (t3 s)) (rv s 1 (t4 s)) (lU s) (rv s 8 (t7 s)) (rv s 8 (t8 s)) (rv s 8 (t9 s)) (rv s 8 (t10 s)) (rv s 8 (t11 s)) (rv s 8 (t12 s)) (rv s 8 (t13 s)) (lP s) (lX s) (fL s) = some (refB s)) := ⟨ref15_may _ _ _ _ _ _ _ _ _ _ _ _ _ _ _ _ (by have := lP_len s; omega) (by have := lU_len s; omega) (by have := lX_len s; omega) (lX_wf s) KM hKM⟩
              clear hKM
              have LE19 := t19_le s
              have HD2 : Aside0 (D = if ¬ (t19 s).2 = 0 then .error (t19 s).2 else if 0 < (s.size : Int) - (t19 s).1 then .error 11 else if rv s 1 (0, 0) < 1 ∨ 14 < rv s 1 (0, 0) then .error 150 else if refB s = false then .error 1 else .ok (refL s)) := ⟨HD.out⟩
              obtain ⟨⟨p, E⟩, ht⟩ : ∃ x, x = t19 s := ⟨_, rfl⟩
              rw [← ht] at F HD2 LE19
              dsimp only at HD2 LE19
              have HLf : Aside0 (Go.Proofs.YtondgoabnmgcaaaO.B.conventicleref01_Reader_Left.f s p = some ((s.size : Int) - p, s, (p : Int))) := ⟨by
                have := HS.out
                unfold Go.Proofs.YtondgoabnmgcaaaO.B.conventicleref01_Reader_Left.f
                rw [show wrap64 ((s.size : Int) - p) = (s.size : Int) - p by unfold wrap64; omega]⟩
              have zE := F.out.cE
              dsimp only at zE
              clear HD ht LE19
              by_cases hE : E = 0
              · subst hE
                rw [if_neg (by decide)] at HD2
                by_cases hM : 0 < (s.size : Int) - p
                · rw [if_pos hM] at HD2
                  go_wp2_with (first
                    | (go_at_call 44; refine (Go.Proofs.YtondgoabnmgcaaaO.B.emb_Left 0 g s p ((s.size : Int) - p) s p w _ F.out.I F.out.B HLf.out).mono ?_; rintro e wl ⟨rfl, hi, hb, hk⟩; have G := Aside0.mk (F.out.call (q' := (p, 0)) hi hb hk); have z : wl.cell? ⟨g7, 0, none⟩ = some (.int .i64 (rv s 1 (0, 0))) := G.out.c7 0; have K2 := Aside0.mk G.out.K2; have BW := Aside0.mk hb; clear hi hb hk)
                    | ((with_reducible refine gate_store (t := 38) (p := 2) rfl ?_); go_loud (refine wpList_store_row rfl 38 (.tmp 2) (.tmp 169) rfl g2 zeroL (by kernel_rfl) (by kernel_rfl) 38 zeroL K2.out si38 rfl oneL ?_); have K2e := Aside0.mk (setRow_heap _ g2 zeroL zeroL 38 (0, 0) K2.out); have B3 := Aside0.mk (below_setRow BW.out F.out.l2 zeroL); generalize World.setRow _ g2 _ = w3 at K2e B3 ⊢))
                  (rw [← HQf.out]); refine ret11 g2 zeroL (.int .i64 (11)) (by kernel_rfl) (by kernel_rfl) (by kernel_rfl) K2e.out si38 ?_
                  rw [HD2.out]
                  exact ⟨B3.out, rfl⟩
                rw [if_neg hM] at HD2
                by_cases hK : rv s 1 (0, 0) < 1
                · rw [if_pos (.inl hK)] at HD2
                  go_wp2_with (first
                    | (go_at_call 44; refine (Go.Proofs.YtondgoabnmgcaaaO.B.emb_Left 0 g s p ((s.size : Int) - p) s p w _ F.out.I F.out.B HLf.out).mono ?_; rintro e wl ⟨rfl, hi, hb, hk⟩; have G := Aside0.mk (F.out.call (q' := (p, 0)) hi hb hk); have z : wl.cell? ⟨g7, 0, none⟩ = some (.int .i64 (rv s 1 (0, 0))) := G.out.c7 0; have K2 := Aside0.mk G.out.K2; have BW := Aside0.mk hb; clear hi hb hk)
                    | ((with_reducible refine gate_store (t := 38) (p := 2) rfl ?_); go_loud (refine wpList_store_row rfl 38 (.tmp 2) (.tmp 178) rfl g2 zeroL (by kernel_rfl) (by kernel_rfl) 38 zeroL K2.out si38 rfl oneL ?_); have K2e := Aside0.mk (setRow_heap _ g2 zeroL zeroL 38 (0, 0) K2.out); have B3 := Aside0.mk (below_setRow BW.out F.out.l2 zeroL); generalize World.setRow _ g2 _ = w3 at K2e B3 ⊢))
                  (rw [← HQf.out]); refine ret11 g2 zeroL (.int .i64 (150)) (by kernel_rfl) (by kernel_rfl) (by kernel_rfl) K2e.out si38 ?_
                  rw [HD2.out]
                  exact ⟨B3.out, rfl⟩
                by_cases hK2 : 14 < rv s 1 (0, 0)
                · rw [if_pos (.inr hK2)] at HD2
                  go_wp2_with (first
                    | (go_at_call 44; refine (Go.Proofs.YtondgoabnmgcaaaO.B.emb_Left 0 g s p ((s.size : Int) - p) s p w _ F.out.I F.out.B HLf.out).mono ?_; rintro e wl ⟨rfl, hi, hb, hk⟩; have G := Aside0.mk (F.out.call (q' := (p, 0)) hi hb hk); have z : wl.cell? ⟨g7, 0, none⟩ = some (.int .i64 (rv s 1 (0, 0))) := G.out.c7 0; have K2 := Aside0.mk G.out.K2; have BW := Aside0.mk hb; clear hi hb hk)
                    | ((with_reducible refine gate_store (t := 38) (p := 2) rfl ?_); go_loud (refine wpList_store_row rfl 38 (.tmp 2) (.tmp 178) rfl g2 zeroL (by kernel_rfl) (by kernel_rfl) 38 zeroL K2.out si38 rfl oneL ?_); have K2e := Aside0.mk (setRow_heap _ g2 zeroL zeroL 38 (0, 0) K2.out); have B3 := Aside0.mk (below_setRow BW.out F.out.l2 zeroL); generalize World.setRow _ g2 _ = w3 at K2e B3 ⊢))
                  (rw [← HQf.out]); refine ret11 g2 zeroL (.int .i64 (150)) (by kernel_rfl) (by kernel_rfl) (by kernel_rfl) K2e.out si38 ?_
                  rw [HD2.out]
                  exact ⟨B3.out, rfl⟩
                rw [if_neg (by rintro (h | h); exact hK h; exact hK2 h)] at HD2
                cases hB : refB s
                · have HB := Aside0.mk hB
                  rw [hB, if_pos rfl] at HD2
                  clear hB
                  go_wp2_with (first
                    | (go_at_call 44; refine (Go.Proofs.YtondgoabnmgcaaaO.B.emb_Left 0 g s p ((s.size : Int) - p) s p w _ F.out.I F.out.B HLf.out).mono ?_; rintro e wl ⟨rfl, hi, hb, hk⟩; have G := Aside0.mk (F.out.call (q' := (p, 0)) hi hb hk); have z : wl.cell? ⟨g7, 0, none⟩ = some (.int .i64 (rv s 1 (0, 0))) := G.out.c7 0; have K2 := Aside0.mk G.out.K2; have BW := Aside0.mk hb; clear hi hb hk)
                    | (refine wpList_load_row rfl 38 (.tmp 7) rfl g7 rfl 38 (cells38 (refL s) (.slice A5 (lU s).length c5) (.slice A13 (lP s).length c13) (.slice A14 (lX s).length c14)) (0, 0) _ G.out.K7 Try.underlying38 rfl si38 ?_)
                    | (go_at_call 20; refine (conventicleref15_May.calls KM _ _ _ _ _ A5 c5 (lU s) _ _ _ _ _ _ _ A13 c13 (lP s) A14 c14 (lX s) (fL s) (refB s) _ (Kd.R_reads' G.out.R5).2.2 (Kd.R_reads' G.out.R5).2.1 (Kd.R_reads' G.out.R13).2.2 (Kd.R_reads' G.out.R13).2.1 (Kd.R_reads' G.out.R14).2.2 (Kd.R_reads' G.out.R14).2.1 HM.out).mono ?_; rintro e wm ⟨rfl, hb⟩; rw [HB.out]; have G2 := Aside0.mk (G.out.below hb); have K2 := Aside0.mk G2.out.K2; have BW := Aside0.mk G2.out.B; clear hb)
                    | ((with_reducible refine gate_store (t := 38) (p := 2) rfl ?_); go_loud (refine wpList_store_row rfl 38 (.tmp 2) (.tmp 182) rfl g2 zeroL (by kernel_rfl) (by kernel_rfl) 38 zeroL K2.out si38 rfl oneL ?_); have K2e := Aside0.mk (setRow_heap _ g2 zeroL zeroL 38 (0, 0) K2.out); have B3 := Aside0.mk (below_setRow BW.out F.out.l2 zeroL); generalize World.setRow _ g2 _ = w3 at K2e B3 ⊢))
                  (rw [← HQf.out]); refine ret11 g2 zeroL (.int .i64 (1)) (by kernel_rfl) (by kernel_rfl) (by kernel_rfl) K2e.out si38 ?_
                  rw [HD2.out]
                  exact ⟨B3.out, rfl⟩
                · have HB := Aside0.mk hB
                  rw [hB, if_neg (by decide)] at HD2
                  clear hB
                  go_wp2_with (first
                    | (go_at_call 44; refine (Go.Proofs.YtondgoabnmgcaaaO.B.emb_Left 0 g s p ((s.size : Int) - p) s p w _ F.out.I F.out.B HLf.out).mono ?_; rintro e wl ⟨rfl, hi, hb, hk⟩; have G := Aside0.mk (F.out.call (q' := (p, 0)) hi hb hk); have z : wl.cell? ⟨g7, 0, none⟩ = some (.int .i64 (rv s 1 (0, 0))) := G.out.c7 0; have K2 := Aside0.mk G.out.K2; have BW := Aside0.mk hb; clear hi hb hk)
                    | (refine wpList_load_row rfl 38 (.tmp 7) rfl g7 rfl 38 (cells38 (refL s) (.slice A5 (lU s).length c5) (.slice A13 (lP s).length c13) (.slice A14 (lX s).length c14)) (0, 0) _ G.out.K7 Try.underlying38 rfl si38 ?_)
                    | (go_at_call 20; refine (conventicleref15_May.calls KM _ _ _ _ _ A5 c5 (lU s) _ _ _ _ _ _ _ A13 c13 (lP s) A14 c14 (lX s) (fL s) (refB s) _ (Kd.R_reads' G.out.R5).2.2 (Kd.R_reads' G.out.R5).2.1 (Kd.R_reads' G.out.R13).2.2 (Kd.R_reads' G.out.R13).2.1 (Kd.R_reads' G.out.R14).2.2 (Kd.R_reads' G.out.R14).2.1 HM.out).mono ?_; rintro e wm ⟨rfl, hb⟩; rw [HB.out]; have G2 := Aside0.mk (G.out.below hb); have K2 := Aside0.mk G2.out.K2; have BW := Aside0.mk G2.out.B; clear hb)
                    | (refine wpList_load_row rfl 38 (.tmp 7) rfl g7 rfl 38 (cells38 (refL s) (.slice A5 (lU s).length c5) (.slice A13 (lP s).length c13) (.slice A14 (lX s).length c14)) (0, 0) _ G2.out.K7 Try.underlying38 rfl si38 ?_)
                    | ((with_reducible refine gate_store (t := 38) (p := 2) rfl ?_); go_loud (refine wpList_store_row rfl 38 (.tmp 2) (.tmp 183) rfl g2 (cells38 (refL s) (.slice A5 (lU s).length c5) (.slice A13 (lP s).length c13) (.slice A14 (lX s).length c14)) (by kernel_rfl) (by kernel_rfl) 38 zeroL K2.out si38 rfl (one_L _ _ _ _ _ _ _ _ _ _ _ _ _ _ _ _ _ _ _ _ _ _) ?_); have K2e := Aside0.mk (setRow_heap _ g2 zeroL (cells38 (refL s) (.slice A5 (lU s).length c5) (.slice A13 (lP s).length c13) (.slice A14 (lX s).length c14)) 38 (0, 0) K2.out); have R5 := Aside0.mk (row_step38 G2.out.R5 K2.out (by decide) (cells38 (refL s) (.slice A5 (lU s).length c5) (.slice A13 (lP s).length c13) (.slice A14 (lX s).length c14))); have R13 := Aside0.mk (row_step38 G2.out.R13 K2.out (by decide) (cells38 (refL s) (.slice A5 (lU s).length c5) (.slice A13 (lP s).length c13) (.slice A14 (lX s).length c14))); have R14 := Aside0.mk (row_step38 G2.out.R14 K2.out (by decide) (cells38 (refL s) (.slice A5 (lU s).length c5) (.slice A13 (lP s).length c13) (.slice A14 (lX s).length c14))); have B3 := Aside0.mk (below_setRow BW.out F.out.l2 (cells38 (refL s) (.slice A5 (lU s).length c5) (.slice A13 (lP s).length c13) (.slice A14 (lX s).length c14))); generalize World.setRow _ g2 _ = w3 at K2e B3 R5 R13 R14 ⊢))
                  (rw [← HQf.out]); refine ret11 g2 (cells38 (refL s) (.slice A5 (lU s).length c5) (.slice A13 (lP s).length c13) (.slice A14 (lX s).length c14)) (.int .i64 (0)) (by kernel_rfl) (by kernel_rfl) (by kernel_rfl) K2e.out si38 ?_
                  rw [HD2.out]
                  exact ⟨B3.out, _, _, _, rfl, R5.out, R13.out, R14.out⟩
              · rw [if_pos hE] at HD2
                go_upto_region 47 with (fail)
                rw [← HQf.out]
                have K2d := Aside0.mk (blk_drew F.out.K2)
                have CEd : Aside0 (wF.drew.cell? ⟨g, 2, none⟩ = some (.int .i64 E)) := ⟨(blk_cell (blk_drew F.out.I.1) 2).trans rfl⟩
                have IGd := Aside0.mk (blk_drew F.out.I.1)
                have BD := Aside0.mk (below_drew1 F.out.B)
                refine start_ (n := 7) (S := fun w' => w'.cell? ⟨g, 2, none⟩ = some (.int .i64 E)) (ds := []) #[false, false, false, false, false, false, false] (by kernel_rfl) rfl rfl CEd.out (fun hHeld => ?_)
                generalize wF.drew = wd at K2d CEd IGd BD hHeld ⊢
                refine pure_ (i := 0) (N := some 159) (v := ?_) (a' := ?_) #[true, false, false, false, false, false, false] rfl rfl (by kernel_rfl) (fun _ _ _ h => h) (Or.inl ⟨by rfl, ?_⟩) ?_ ?_
                rotate_left
                · intro w'
                  go_simp
                  first | done | with_reducible rfl | rfl | (simp [Instr.field, go_sem]; rfl)
                rotate_left
                · simp only [Act.put, List.setIfInBounds_toArray, List.set_cons_zero, List.set_cons_succ, i64_w, i32_w]
                  rfl
                refine pure_ (i := 1) (N := some 160) (v := ?_) (a' := ?_) #[true, true, false, false, false, false, false] rfl rfl (by kernel_rfl) (fun _ _ _ h => h) (Or.inl ⟨by rfl, ?_⟩) ?_ ?_
                rotate_left
                · intro w'
                  go_simp
                  first | done | with_reducible rfl | rfl | (simp [Instr.field, go_sem]; rfl)
                rotate_left
                · simp only [Act.put, List.setIfInBounds_toArray, List.set_cons_zero, List.set_cons_succ, i64_w, i32_w]
                  rfl
                refine pure_ (i := 2) (N := some 161) (v := ?_) (a' := ?_) #[true, true, true, false, false, false, false] rfl rfl (by kernel_rfl) (fun _ _ _ h => h) (Or.inl ⟨by rfl, ?_⟩) ?_ ?_
                rotate_left
                · intro w'
                  go_simp
                  first | done | with_reducible rfl | rfl | (simp [Instr.field, go_sem]; rfl)
                rotate_left
                · simp only [Act.put, List.setIfInBounds_toArray, List.set_cons_zero, List.set_cons_succ, i64_w, i32_w]
                  rfl
                refine pure_ (i := 3) (N := some 162) (v := ?_) (a' := ?_) #[true, true, true, true, false, false, false] rfl rfl (by kernel_rfl) (fun _ _ _ h => h) (Or.inl ⟨by rfl, ?_⟩) ?_ ?_
                rotate_left
                · intro w'
                  go_simp
                  first | done | with_reducible rfl | rfl | (simp [Instr.field, go_sem]; rfl)
                rotate_left
                · simp only [Act.put, List.setIfInBounds_toArray, List.set_cons_zero, List.set_cons_succ, i64_w, i32_w]
                  rfl
                refine take_ (i := 4) (N := some 163) (v := ?_) (a' := ?_) #[true, true, true, true, true, false, false] rfl rfl (by kernel_rfl) (fun _ _ _ h => h) (Or.inl ⟨by rfl, ?_⟩) hHeld ?_ ?_
                rotate_left
                · rintro w' s0
                  go_simp
                  first | done | with_reducible rfl | rfl | (simp [Instr.field, go_sem]; rfl)
                rotate_left
                · simp only [Act.put, List.setIfInBounds_toArray, List.set_cons_zero, List.set_cons_succ, i64_w, i32_w]
                  rfl
                refine one_ (i := 5) (N := none) #[true, true, true, true, true, true, false] rfl rfl (by kernel_rfl) (by decide) (fun K hK => ?_)
                refine skip_ (w1 := wd.setRow g2 zeroL) (by rfl) rfl (row_stores 38 _ _ rfl g2 zeroL (by kernel_rfl) (by kernel_rfl) 38 zeroL K2d.out si38 rfl oneL) ?_
                refine hK _ _ ((blk_cell ((setRow_other wd g2 g zeroL (Ne.symm F.out.n2)).trans IGd.out) 2).trans rfl) (fun hHeld => ?_)
                clear hK K
                refine pure_ (i := 6) (N := some 3) (v := ?_) (a' := ?_) #[true, true, true, true, true, true, true] rfl rfl (by kernel_rfl) (fun _ _ _ h => h) (Or.inl ⟨by rfl, ?_⟩) ?_ ?_
                rotate_left
                · intro w'
                  go_simp
                  first | done | with_reducible rfl | rfl | (simp [Instr.field, go_sem]; rfl)
                rotate_left
                · simp only [Act.put, List.setIfInBounds_toArray, List.set_cons_zero, List.set_cons_succ, i64_w, i32_w]
                  rfl
                refine done_ (by kernel_rfl) ?_
                have K2e := Aside0.mk (setRow_heap wd g2 zeroL zeroL 38 (0, 0) K2d.out)
                have B3 := Aside0.mk (below_setRow BD.out F.out.l2 zeroL)
                generalize World.setRow _ g2 _ = w3 at K2e B3 ⊢
                rw [HQf.out]
                go_wp2
                (rw [← HQf.out]); refine ret11 g2 zeroL (.int .i64 (E)) (by kernel_rfl) (by kernel_rfl) (by kernel_rfl) K2e.out si38 ?_
                rw [HD2.out]
                exact ⟨B3.out, rfl⟩
end Go.Proofs.Ytondgoabnmgcaaa.B
end
section
/- A heavy letter, in plain words; how long a letter's bytes are. -/
namespace Go.Proofs.Ytondgoabnmgcaaa.Pure
open Go.RowKit Go.Proofs.Ytondgoabnmgcaaa.B Go.Proofs.YtondgoabnmgcaaaW.PrintWords Go.Proofs.YtondgoabnmgcaaaW.PrintLast
open Go.Proofs.YtondgoabnmgcaaaO.R (le le_length rbits)
set_option linter.unusedVariables false
section
variable (a0 a1 a2 a3 a4 : Int) (l5 : List S70) (a6 a7 a8 a9 a10 a11 a12 : Int) (l13 : List S53) (l14 : List S77) (a15 : Nat)
def sumP : List S53 → Nat
  | [] => 0
  | p :: l => 19 + p.f1.f2.size + sumP l
theorem len_encU (l : List S70) : (l.flatMap encU).length = 10 * l.length := by
  induction l with
  | nil => rfl
  | cons u l ih => rw [List.flatMap_cons, List.length_append, ih, encU, List.length_append, List.length_append, le_length, le_length, le_length, List.length_cons]; omega
theorem len_encX (l : List S77) : (l.flatMap encX).length = 16 * l.length := by
  induction l with
  | nil => rfl
  | cons u l ih => rw [List.flatMap_cons, List.length_append, ih, encX, List.length_append, le_length, le_length, List.length_cons]; omega
theorem len_encP (l : List S53) : (l.flatMap encP).length = sumP l := by
  induction l with
  | nil => rfl
  | cons p l ih =>
    rw [List.flatMap_cons, List.length_append, ih, encP, List.length_append, List.length_append, List.length_append, List.length_append, le_length, le_length, le_length, le_length, bytesOf_length, sumP]
    omega
theorem len_encL : (encL a0 a1 a2 a3 a4 l5 a6 a7 a8 a9 a10 a11 a12 l13 l14 a15).length = 79 + 10 * l5.length + sumP l13 + 16 * l14.length := by
  unfold encL
  simp only [List.length_append, le_length, len_encU, len_encP, len_encX, List.length_nil]
  omega
end
theorem sealS_size (s : ByteArray) : (sealS s).size = s.size + 4 := by
  unfold sealS
  rw [ByteArray.size_append, Go.Proofs.YtondgoabnmgcaaaG.Pure.four_size]
end Go.Proofs.Ytondgoabnmgcaaa.Pure
end
section
/- By hand: what was encoded is decoded: the plain law. -/
namespace Go.Proofs.Ytondgoabnmgcaaa.B
open Go.RowKit Go.Proofs.YtondgoabnmgcaaaW.PrintWords Go.Proofs.YtondgoabnmgcaaaW.PrintLast Go.Proofs.YtondgoabnmgcaaaW.PrintMore
open Go.Proofs.YtondgoabnmgcaaaO.R (rdv rdv_range rbits rdv_front cut_back bytesOf_byte le le_length le_byte)
open Go.Proofs.Ytondgoabnmgcaaa.Pure (len_encU len_encX len_encP len_encL sumP)
/-- the bytes L stand at p -/
def At (S : ByteArray) (p : Nat) (L : List Int) : Prop := ∃ A C, S = strOfNums (A ++ L ++ C) ∧ A.length = p ∧ ∀ x ∈ A ++ L ++ C, 0 ≤ x ∧ x < 256
theorem At.size {S : ByteArray} {p : Nat} {L : List Int} (h : At S p L) : p + L.length ≤ S.size := by
  obtain ⟨A, C, e, ha, hb⟩ := h
  rw [e, strOfNums_size, List.length_append, List.length_append]
  omega
theorem app_empty (s : ByteArray) : s ++ ByteArray.empty = s := by
  apply ByteArray.ext; rw [ByteArray.data_append]; exact Array.append_empty
theorem At.num {S : ByteArray} {p i : Nat} {v : Int} (h : At S p (le i v)) (h0 : 0 ≤ v) (h1 : v < 256 ^ i) : rdv S p i = v := by
  obtain ⟨A, C, e, ha, hb⟩ := h
  rw [e, ← ha]
  have := rdv_front ByteArray.empty i A C v hb h0 h1
  rwa [app_empty] at this
theorem At.one {S : ByteArray} {p : Nat} {v : Int} (h : At S p (le 1 v)) (h0 : 0 ≤ v ∧ v < 256) : rdv S p 1 = v := h.num h0.1 (by have := h0.2; omega)
theorem At.u64 {S : ByteArray} {p : Nat} {v : Int} (h : At S p (le 8 v)) (h0 : 0 ≤ v ∧ v < 18446744073709551616) : rdv S p 8 = v := h.num h0.1 (by have := h0.2; omega)
theorem At.text {S : ByteArray} {p : Nat} {s : ByteArray} (h : At S p (bytesOf s)) : S.extract p (p + s.size) = s := by
  obtain ⟨A, C, e, ha, hb⟩ := h
  have h1 : S = strOfNums (A ++ bytesOf s) ++ strOfNums C := by
    rw [e]
    apply ByteArray.ext
    apply Array.toList_inj.1
    rw [ByteArray.data_append, Array.toList_append, strOfNums_data, strOfNums_data, strOfNums_data, List.map_append]
  rw [h1, ← ha]
  exact cut_back A s _
theorem bytesOf_len (s : ByteArray) : (bytesOf s).length = s.size := by
  unfold bytesOf
  rw [List.length_map]
  exact data_length s
theorem rbits_self (x : Nat) (h : geF x = true) : rbits x = (x : Int) := by
  have h1 := ge_self x h
  have hn : Go.Proofs.YtondgoabnmgcaaaO.Flt.nan x = false := by
    cases hx : Go.Proofs.YtondgoabnmgcaaaO.Flt.nan x
    · rfl
    · rw [Go.Proofs.YtondgoabnmgcaaaO.R.ord, if_pos (Or.inl hx)] at h1
      exact absurd h1 (by decide)
  unfold rbits
  rw [hn]
  rfl
end Go.Proofs.Ytondgoabnmgcaaa.B
end
section
/- By hand: what was decoded is encoded to the same bytes: the plain law. -/
namespace Go.Proofs.Ytondgoabnmgcaaa.B
open Go.RowKit Go.Proofs.YtondgoabnmgcaaaW.PrintWords Go.Proofs.YtondgoabnmgcaaaW.PrintLast Go.Proofs.YtondgoabnmgcaaaW.PrintMore
open Go.Proofs.YtondgoabnmgcaaaO.R (rdv rdv_range rbits le le_length)
open Go.Proofs.YtondgoabnmgcaaaG.Pure (bt_is)
/-- n bytes at p -/
def seg (S : ByteArray) (p n : Nat) : List Int := ((bytesOf S).drop p).take n
theorem seg_app (S : ByteArray) (p n m : Nat) : seg S p n ++ seg S (p + n) m = seg S p (n + m) := by
  unfold seg
  rw [← List.drop_drop, List.take_add]
theorem seg_to (S : ByteArray) {p q r : Nat} (h : p ≤ q) (k : q ≤ r) : seg S p (q - p) ++ seg S q (r - q) = seg S p (r - p) := by
  have := seg_app S p (q - p) (r - q)
  rw [show p + (q - p) = q by omega, show q - p + (r - q) = r - p by omega] at this
  exact this
theorem le_rdv (S : ByteArray) : ∀ (i p : Nat), p + i ≤ S.size → le i (rdv S p i) = seg S p i
  | 0, p, _ => by simp [le, seg]
  | i + 1, p, h => by
    have hb := bt_range S (p : Int)
    have hl : p < S.data.toList.length := by rw [data_length]; omega
    have hbt := bt_is S p hl
    have e : rdv S p (i + 1) = bt S p + 256 * rdv S (p + 1) i := rfl
    have h1 : rdv S p (i + 1) % 256 = bt S p := by rw [e]; omega
    have h2 : rdv S p (i + 1) / 256 = rdv S (p + 1) i := by rw [e]; omega
    rw [le, h1, h2, le_rdv S i (p + 1) (by omega)]
    have h3 : (bytesOf S).drop p = bt S p :: (bytesOf S).drop (p + 1) := by
      have hp : p < (bytesOf S).length := by rw [bytesOf_len]; omega
      rw [List.drop_eq_getElem_cons hp]
      congr 1
      rw [hbt]
      simp [bytesOf]
    unfold seg
    rw [h3, List.take_succ_cons]
theorem inv_U (S : ByteArray) (p q : Nat) (u : S70) (h : itU S p = .ok (u, q)) : p ≤ q ∧ q ≤ S.size ∧ encU u = seg S p (q - p) := by
  unfold itU at h
  by_cases h1 : S.size < p + 10
  · rw [if_pos h1] at h; cases h
  · rw [if_neg h1] at h
    obtain ⟨rfl, rfl⟩ := Prod.mk.inj (Except.ok.inj h)
    refine ⟨by omega, by omega, ?_⟩
    unfold encU
    dsimp only
    rw [le_rdv S 1 p (by omega), le_rdv S 8 (p + 1) (by omega), le_rdv S 1 (p + 9) (by omega), seg_app, show p + 9 = p + (1 + 8) from rfl, seg_app, show p + 10 - p = 1 + 8 + 1 by omega]
theorem inv_X (S : ByteArray) (p q : Nat) (u : S77) (h : itX S p = .ok (u, q)) : p ≤ q ∧ q ≤ S.size ∧ encX u = seg S p (q - p) := by
  unfold itX at h
  by_cases h1 : S.size < p + 16
  · rw [if_pos h1] at h; cases h
  · rw [if_neg h1] at h
    obtain ⟨rfl, rfl⟩ := Prod.mk.inj (Except.ok.inj h)
    refine ⟨by omega, by omega, ?_⟩
    unfold encX
    dsimp only
    rw [le_rdv S 8 p (by omega), le_rdv S 8 (p + 8) (by omega), seg_app, show p + 16 - p = 8 + 8 by omega]
theorem bytes_cut (S : ByteArray) (p n : Nat) : bytesOf (S.extract p (p + n)) = seg S p n := by
  unfold bytesOf seg bytesOf
  rw [ByteArray.data_extract, Array.toList_extract, List.extract_eq_take_drop, List.map_take, List.map_drop, show p + n - p = n by omega]
theorem inv_P (S : ByteArray) (p q : Nat) (u : S53) (h : itP S p = .ok (u, q)) : p ≤ q ∧ q ≤ S.size ∧ encP u = seg S p (q - p) := by
  unfold itP at h
  by_cases h1 : S.size < p + 17
  · rw [if_pos h1] at h; cases h
  · rw [if_neg h1] at h
    by_cases h2 : textE S (p + 17) = 0
    · rw [if_pos h2] at h
      obtain ⟨rfl, rfl⟩ := Prod.mk.inj (Except.ok.inj h)
      unfold textE at h2
      by_cases h3 : S.size < p + 17 + 2
      · rw [if_pos h3] at h2; cases h2
      rw [if_neg h3] at h2
      by_cases h4 : 64 < rdv S (p + 17) 2
      · rw [if_pos h4] at h2; cases h2
      rw [if_neg h4] at h2
      by_cases h5 : S.size < p + 17 + 2 + (rdv S (p + 17) 2).toNat
      · rw [if_pos h5] at h2; cases h2
      have hr := rdv_range S 2 (p + 17)
      have hN : textN S (p + 17) = (rdv S (p + 17) 2).toNat := rfl
      refine ⟨by omega, by omega, ?_⟩
      unfold encP
      dsimp only
      have hs : (textS S (p + 17)).size = textN S (p + 17) := by
        unfold textS
        rw [ByteArray.size_extract]
        omega
      have hi : ((textS S (p + 17)).size : Int) = rdv S (p + 17) 2 := by rw [hs, hN]; exact Int.toNat_of_nonneg hr.1
      rw [hi, le_rdv S 8 p (by omega), le_rdv S 1 (p + 8) (by omega), le_rdv S 8 (p + 9) (by omega), le_rdv S 2 (p + 17) (by omega)]
      unfold textS
      rw [bytes_cut S (p + 17 + 2) (textN S (p + 17)), seg_app, show p + 9 = p + (8 + 1) from rfl, seg_app, seg_app, show p + 17 = p + (8 + 1 + 8) from rfl, seg_app, show p + 19 + textN S (p + (8 + 1 + 8)) - p = 8 + 1 + 8 + (2 + textN S (p + (8 + 1 + 8))) by omega]
    · rw [if_neg h2] at h; cases h
theorem inv_run {α : Type} (S : ByteArray) (it : Nat → Except Int (α × Nat)) (enc : α → List Int) (hit : ∀ p q x, it p = .ok (x, q) → p ≤ q ∧ q ≤ S.size ∧ enc x = seg S p (q - p)) :
    ∀ (n p q : Nat) (acc l : List α), p ≤ S.size → runI it n p acc = .ok (l, q) → p ≤ q ∧ q ≤ S.size ∧ ∃ l', l = acc ++ l' ∧ l'.length = n ∧ l'.flatMap enc = seg S p (q - p)
  | 0, p, q, acc, l, hp, h => by
    rw [runI] at h
    obtain ⟨rfl, rfl⟩ := Prod.mk.inj (Except.ok.inj h)
    exact ⟨by omega, hp, [], by simp, rfl, by simp [seg]⟩
  | n + 1, p, q, acc, l, hp, h => by
    rw [runI] at h
    cases hi : it p with
    | error e => rw [hi] at h; cases h
    | ok r =>
      obtain ⟨x, p1⟩ := r
      rw [hi] at h
      obtain ⟨h1, h2, h3⟩ := hit p p1 x hi
      obtain ⟨k1, k2, l', rfl, k3, k4⟩ := inv_run S it enc hit n p1 q (acc ++ [x]) l h2 h
      exact ⟨by omega, k2, x :: l', by simp, by simp [k3], by rw [List.flatMap_cons, h3, k4, seg_to S h1 k1]⟩
theorem inv_list {α : Type} (S : ByteArray) (it : Nat → Except Int (α × Nat)) (enc : α → List Int) (hit : ∀ p q x, it p = .ok (x, q) → p ≤ q ∧ q ≤ S.size ∧ enc x = seg S p (q - p)) (most : Int) (p q : Nat) (l : List α) (h : listI S it most p = .ok (l, q)) :
    p + 1 ≤ q ∧ q ≤ S.size ∧ le 1 (l.length : Int) = seg S p 1 ∧ l.flatMap enc = seg S (p + 1) (q - (p + 1)) := by
  unfold listI at h
  by_cases h1 : S.size < p + 1
  · rw [if_pos h1] at h; cases h
  rw [if_neg h1] at h
  by_cases h2 : most < rdv S p 1
  · rw [if_pos h2] at h; cases h
  rw [if_neg h2] at h
  have hr := rdv_range S 1 p
  obtain ⟨k1, k2, l', e, k3, k4⟩ := inv_run S it enc hit _ (p + 1) q [] l (by omega) h
  rw [List.nil_append] at e
  subst e
  refine ⟨k1, k2, ?_, k4⟩
  rw [k3, Int.toNat_of_nonneg hr.1, le_rdv S 1 p (by omega)]
theorem strOf_all (S : ByteArray) : strOfNums (bytesOf S) = S := by
  apply ByteArray.ext
  apply Array.toList_inj.1
  rw [strOfNums_data]
  unfold bytesOf
  rw [List.map_map]
  conv => rhs; rw [← List.map_id S.data.toList]
  apply List.map_congr_left
  intro b _
  simp
end Go.Proofs.Ytondgoabnmgcaaa.B
end
section
/- By hand: what was decoded is encoded to the same bytes: the whole letter. -/
namespace Go.Proofs.Ytondgoabnmgcaaa.B
open Go.RowKit Go.Proofs.YtondgoabnmgcaaaW.PrintWords Go.Proofs.YtondgoabnmgcaaaW.PrintLast Go.Proofs.YtondgoabnmgcaaaW.PrintMore
open Go.Proofs.YtondgoabnmgcaaaO.R (rdv rdv_range rbits le le_length)
theorem peel {c : Prop} [Decidable c] {e : Int} {y : Except Int S32} {x : S32} (h : (if c then .error e else y) = .ok x) : ¬ c ∧ y = .ok x := by
  by_cases hc : c
  · rw [if_pos hc] at h; cases h
  · rw [if_neg hc] at h; exact ⟨hc, h⟩
theorem enc_dec (S : ByteArray) (x : S32) (h : decP S = .ok x) :
    mayL x.f0 x.f1 x.f2 x.f4 x.f5 x.f11 x.f12 x.f13 = true ∧ encL x.f0 x.f1 x.f2 x.f3 x.f4 x.f5 x.f6.f0 x.f6.f1 x.f7 x.f8 x.f9.f0 x.f9.f1 x.f10 x.f11 x.f12 x.f13 = bytesOf S := by
  unfold decP at h; obtain ⟨h0, h⟩ := peel h
  unfold d1 at h; obtain ⟨h1, h⟩ := peel h
  unfold d2 at h; obtain ⟨h2, h⟩ := peel h
  unfold d3 at h; obtain ⟨h3, h⟩ := peel h
  unfold d4 at h; obtain ⟨h4, h⟩ := peel h
  unfold d5 at h
  rcases except_or (listI S (itU S) 8 12) with ⟨e, hL⟩ | ⟨⟨l5, q⟩, hL⟩
  · rw [hL] at h; cases h
  rw [hL] at h
  obtain ⟨k5, z5, n5, f5⟩ := inv_list S _ encU (inv_U S) 8 12 q l5 hL
  replace h : d6 S l5 q = .ok x := h
  unfold d6 at h; obtain ⟨h6, h⟩ := peel h
  unfold d7 at h; obtain ⟨h7, h⟩ := peel h
  unfold d8 at h; obtain ⟨h8, h⟩ := peel h
  unfold d9 at h; obtain ⟨h9, h⟩ := peel h
  unfold d10 at h; obtain ⟨h10, h⟩ := peel h
  unfold d11 at h
  rcases except_or (listI S (itP S) 6 (q + 56)) with ⟨e, hL2⟩ | ⟨⟨l13, q2⟩, hL2⟩
  · rw [hL2] at h; cases h
  rw [hL2] at h
  obtain ⟨k13, z13, n13, f13⟩ := inv_list S _ encP (inv_P S) 6 (q + 56) q2 l13 hL2
  replace h : d12 S l5 q l13 q2 = .ok x := h
  unfold d12 at h
  rcases except_or (listI S (itX S) 16 q2) with ⟨e, hL3⟩ | ⟨⟨l14, q3⟩, hL3⟩
  · rw [hL3] at h; cases h
  rw [hL3] at h
  obtain ⟨k14, z14, n14, f14⟩ := inv_list S _ encX (inv_X S) 16 q2 q3 l14 hL3
  replace h : d13 S l5 q l13 l14 q3 = .ok x := h
  unfold d13 at h; obtain ⟨h13, h⟩ := peel h
  unfold d14 at h; obtain ⟨h14, h⟩ := peel h
  unfold d15 at h; obtain ⟨h15, h⟩ := peel h
  unfold d16 at h; obtain ⟨h16, h⟩ := peel h
  obtain rfl := Except.ok.inj h
  have hm : mayL (rdv S 0 1) (rdv S 1 1) (rdv S 2 1) (rdv S 11 1) l5 l13 l14 (loadF S q3) = true := by
    cases hx : mayL (rdv S 0 1) (rdv S 1 1) (rdv S 2 1) (rdv S 11 1) l5 l13 l14 (loadF S q3)
    · exact absurd hx h16
    · rfl
  refine ⟨hm, ?_⟩
  have hge : geF (loadF S q3) = true := by
    simp only [mayL, Bool.and_eq_true, decide_eq_true_eq] at hm
    exact hm.2.2.2.2.2.2.2.2.2.2.2.1
  have hr := rdv_range S 8 q3
  have hrb : rbits (loadF S q3) = rdv S q3 8 := by
    rw [rbits_self _ hge]
    unfold loadF at hge ⊢
    by_cases hn : Go.Proofs.YtondgoabnmgcaaaO.Flt.nan (rdv S q3 8).toNat = true
    · exfalso
      have e : rbits (rdv S q3 8).toNat = 9221120237041090561 := by unfold rbits; rw [hn]; rfl
      rw [e] at hge
      revert hge
      decide +kernel
    · have e : rbits (rdv S q3 8).toNat = ((rdv S q3 8).toNat : Int) := by
        unfold rbits
        rw [if_neg hn]
      rw [e, Int.toNat_natCast, Int.toNat_of_nonneg hr.1]
  unfold letterOf
  dsimp only
  unfold encL
  rw [hrb, n5, f5, n13, f13, n14, f14, le_rdv S 1 0 (by omega), le_rdv S 1 1 (by omega), le_rdv S 1 2 (by omega), le_rdv S 8 3 (by omega), le_rdv S 1 11 (by omega), le_rdv S 8 q (by omega), le_rdv S 8 (q + 8) (by omega), le_rdv S 8 (q + 16) (by omega), le_rdv S 8 (q + 24) (by omega), le_rdv S 8 (q + 32) (by omega), le_rdv S 8 (q + 32 + 8) (by omega), le_rdv S 8 (q + 48) (by omega), le_rdv S 8 q3 (by omega), List.nil_append]
  have hall : bytesOf S = seg S 0 (q3 + 8) := by
    unfold seg
    rw [List.drop_zero, List.take_of_length_le (by rw [bytesOf_len]; omega)]
  rw [hall]
  have A := seg_app S
  have e1 : seg S 0 1 ++ seg S 1 1 ++ seg S 2 1 = seg S 0 3 := by rw [A 0 1 1, A 0 2 1]
  have e2 : seg S 0 3 ++ seg S 3 8 = seg S 0 11 := A 0 3 8
  have e3 : seg S 11 1 ++ seg S 12 1 = seg S 11 2 := A 11 1 1
  have e4 : seg S 0 11 ++ seg S 11 2 = seg S 0 13 := A 0 11 2
  have e5 : seg S 0 13 ++ seg S (12 + 1) (q - (12 + 1)) = seg S 0 q := by rw [show (12 + 1) = 0 + 13 from rfl, A 0 13, show 13 + (q - (0 + 13)) = q by omega]
  have e6 : seg S q 8 ++ seg S (q + 8) 8 ++ seg S (q + 16) 8 ++ seg S (q + 24) 8 ++ seg S (q + 32) 8 ++ seg S (q + 32 + 8) 8 ++ seg S (q + 48) 8 = seg S q 56 := by
    rw [A q 8 8, A q 16 8, A q 24 8, A q 32 8, A q 40 8, A q 48 8]
  have e7 : seg S 0 q ++ seg S q 56 = seg S 0 (q + 56) := by have := A 0 q 56; rwa [Nat.zero_add] at this
  have e8 : seg S 0 (q + 56) ++ seg S (q + 56) 1 = seg S 0 (q + 56 + 1) := by have := A 0 (q + 56) 1; rwa [Nat.zero_add] at this
  have e9 : seg S 0 (q + 56 + 1) ++ seg S (q + 56 + 1) (q2 - (q + 56 + 1)) = seg S 0 q2 := by have := A 0 (q + 56 + 1) (q2 - (q + 56 + 1)); rwa [Nat.zero_add, show q + 56 + 1 + (q2 - (q + 56 + 1)) = q2 by omega] at this
  have e10 : seg S 0 q2 ++ seg S q2 1 = seg S 0 (q2 + 1) := by have := A 0 q2 1; rwa [Nat.zero_add] at this
  have e11 : seg S 0 (q2 + 1) ++ seg S (q2 + 1) (q3 - (q2 + 1)) = seg S 0 q3 := by have := A 0 (q2 + 1) (q3 - (q2 + 1)); rwa [Nat.zero_add, show q2 + 1 + (q3 - (q2 + 1)) = q3 by omega] at this
  have e12 : seg S 0 q3 ++ seg S q3 8 = seg S 0 (q3 + 8) := by have := A 0 q3 8; rwa [Nat.zero_add] at this
  rw [e1, e2, e3, e4, e5, e6, e7, e8, e9, e10, e11, e12]
end Go.Proofs.Ytondgoabnmgcaaa.B
end
section
/- Plain: the reference's Decode answers what letter.Decode does. -/
namespace Go.Proofs.Ytondgoabnmgcaaa.B
open Go.RowKit Go.Proofs.YtondgoabnmgcaaaW.PrintWords Go.Proofs.YtondgoabnmgcaaaW.PrintLast Go.Proofs.YtondgoabnmgcaaaW.PrintMore
open Go.Proofs.YtondgoabnmgcaaaO.R (rdv rdv_range rbits)
set_option linter.unusedVariables false
def to38 (x : S32) : S38 := ⟨x.f0, x.f1, x.f2, x.f3, x.f4, x.f5, x.f6, x.f7, x.f8, x.f9, x.f10, x.f11.map to90, x.f12, x.f13⟩
section
variable {s : ByteArray} {e : Int} {st : Nat × Int}
theorem nx_bad {n : Nat} (h : st.2 = e) (he : e ≠ 0) : (nx s n st).2 = e := by unfold nx; rw [if_neg (by rw [h]; exact he)]; exact h
theorem tx_bad (h : st.2 = e) (he : e ≠ 0) : (tx s st).2 = e := by unfold tx; rw [if_neg (by rw [h]; exact he)]; exact h
theorem mx_bad {m : Nat} (h : st.2 = e) (he : e ≠ 0) : (mx s m st).2 = e := by
  have h2 := nx_bad (s := s) (n := 1) h he
  unfold mx; rw [if_neg (by rw [h2]; exact he)]; exact h2
theorem its_bad {α : Type} {it : Nat × Int → α} {go : Nat × Int → Nat × Int} (hg : ∀ st, st.2 = e → (go st).2 = e) (h : st.2 = e) : ∀ n, (its it go st n).1.2 = e
  | 0 => h
  | n + 1 => hg _ (its_bad hg h n)
theorem uN_bad (he : e ≠ 0) (st : Nat × Int) (h : st.2 = e) : (uN s st).2 = e := nx_bad (nx_bad (nx_bad h he) he) he
theorem pN_bad (he : e ≠ 0) (st : Nat × Int) (h : st.2 = e) : (pN s st).2 = e := tx_bad (nx_bad (nx_bad (nx_bad h he) he) he) he
theorem xN_bad (he : e ≠ 0) (st : Nat × Int) (h : st.2 = e) : (xN s st).2 = e := nx_bad (nx_bad h he) he
theorem nx_ok {p n : Nat} (h : ¬ s.size < p + n) : nx s n (p, 0) = (p + n, 0) := by unfold nx; rw [if_pos rfl, if_neg h]
theorem nx_no {p n : Nat} (h : s.size < p + n) : (nx s n (p, 0)).2 = 10 := by unfold nx; rw [if_pos rfl, if_pos h]
theorem rv_ok {p n : Nat} (h : ¬ s.size < p + n) : rv s n (p, 0) = rdv s p n := by unfold rv; rw [if_pos rfl, if_neg h]
theorem fin19 (h : (t19 s).2 = e) (he : e ≠ 0) : refD s = .error e := by unfold refD; rw [if_pos (by rw [h]; exact he), h]
theorem fin18 (h : (t18 s).2 = e) (he : e ≠ 0) : refD s = .error e := fin19 (nx_bad h he) he
theorem fin17 (h : (t17 s).2 = e) (he : e ≠ 0) : refD s = .error e := fin18 (its_bad (xN_bad he) h _) he
theorem fin16 (h : (t16 s).2 = e) (he : e ≠ 0) : refD s = .error e := fin17 (mx_bad h he) he
theorem fin15 (h : (t15 s).2 = e) (he : e ≠ 0) : refD s = .error e := fin16 (its_bad (pN_bad he) h _) he
theorem fin14 (h : (t14 s).2 = e) (he : e ≠ 0) : refD s = .error e := fin15 (mx_bad h he) he
theorem fin13 (h : (t13 s).2 = e) (he : e ≠ 0) : refD s = .error e := fin14 (nx_bad h he) he
theorem fin12 (h : (t12 s).2 = e) (he : e ≠ 0) : refD s = .error e := fin13 (nx_bad h he) he
theorem fin11 (h : (t11 s).2 = e) (he : e ≠ 0) : refD s = .error e := fin12 (nx_bad h he) he
theorem fin10 (h : (t10 s).2 = e) (he : e ≠ 0) : refD s = .error e := fin11 (nx_bad h he) he
theorem fin9 (h : (t9 s).2 = e) (he : e ≠ 0) : refD s = .error e := fin10 (nx_bad h he) he
theorem fin8 (h : (t8 s).2 = e) (he : e ≠ 0) : refD s = .error e := fin9 (nx_bad h he) he
theorem fin7 (h : (t7 s).2 = e) (he : e ≠ 0) : refD s = .error e := fin8 (nx_bad h he) he
theorem fin6 (h : (t6 s).2 = e) (he : e ≠ 0) : refD s = .error e := fin7 (its_bad (uN_bad he) h _) he
theorem fin5 (h : (t5 s).2 = e) (he : e ≠ 0) : refD s = .error e := fin6 (mx_bad h he) he
theorem fin4 (h : (t4 s).2 = e) (he : e ≠ 0) : refD s = .error e := fin5 (nx_bad h he) he
theorem fin3 (h : (t3 s).2 = e) (he : e ≠ 0) : refD s = .error e := fin4 (nx_bad h he) he
theorem fin2 (h : (t2 s).2 = e) (he : e ≠ 0) : refD s = .error e := fin3 (nx_bad h he) he
theorem fin1 (h : (t1 s).2 = e) (he : e ≠ 0) : refD s = .error e := fin2 (nx_bad h he) he
end
theorem its_front {α : Type} (it : Nat × Int → α) (go : Nat × Int → Nat × Int) (st : Nat × Int) : ∀ n, its it go st (n + 1) = ((its it go (go st) n).1, it st :: (its it go (go st) n).2)
  | 0 => rfl
  | n + 1 => by
    rw [its, its_front it go st n]
    rfl
theorem run_its {α β : Type} (f : α → β) (s : ByteArray) (it : Nat → Except Int (α × Nat)) (itS : Nat × Int → β) (go : Nat × Int → Nat × Int)
    (hok : ∀ p x q, it p = .ok (x, q) → itS (p, 0) = f x ∧ go (p, 0) = (q, 0)) (hno : ∀ p e, it p = .error e → (go (p, 0)).2 = e ∧ e ≠ 0) (hb : ∀ (e : Int), e ≠ 0 → ∀ st, st.2 = e → (go st).2 = e) :
    ∀ (n p : Nat) (acc : List α), (∀ l q, runI it n p acc = .ok (l, q) → ∃ l', l = acc ++ l' ∧ its itS go (p, 0) n = ((q, 0), l'.map f)) ∧ (∀ e, runI it n p acc = .error e → (its itS go (p, 0) n).1.2 = e ∧ e ≠ 0)
  | 0, p, acc => by
    constructor
    · intro l q h
      rw [runI] at h
      obtain ⟨rfl, rfl⟩ := Prod.mk.inj (Except.ok.inj h)
      exact ⟨[], by simp, rfl⟩
    · intro e h
      rw [runI] at h
      cases h
  | n + 1, p, acc => by
    constructor
    · intro l q h
      rw [runI] at h
      cases hi : it p with
      | error e => rw [hi] at h; cases h
      | ok r =>
        obtain ⟨x, p1⟩ := r
        rw [hi] at h
        obtain ⟨h1, h2⟩ := hok p x p1 hi
        obtain ⟨l', rfl, k⟩ := (run_its f s it itS go hok hno hb n p1 (acc ++ [x])).1 l q h
        refine ⟨x :: l', by simp, ?_⟩
        rw [its_front, h2, k, h1]
        rfl
    · intro e h
      rw [runI] at h
      cases hi : it p with
      | error e2 =>
        rw [hi] at h
        obtain rfl := Except.error.inj h
        obtain ⟨h1, h2⟩ := hno p _ hi
        refine ⟨?_, h2⟩
        rw [its_front]
        exact its_bad (hb _ h2) h1 n
      | ok r =>
        obtain ⟨x, p1⟩ := r
        rw [hi] at h
        obtain ⟨h1, h2⟩ := hok p x p1 hi
        obtain ⟨k1, k2⟩ := (run_its f s it itS go hok hno hb n p1 (acc ++ [x])).2 e h
        refine ⟨?_, k2⟩
        rw [its_front, h2]
        exact k1
theorem itU_is (s : ByteArray) : (∀ p x q, itU s p = .ok (x, q) → uS s (p, 0) = id x ∧ uN s (p, 0) = (q, 0)) ∧ (∀ p e, itU s p = .error e → (uN s (p, 0)).2 = e ∧ e ≠ 0) := by
  constructor
  · intro p x q h
    unfold itU at h
    by_cases h1 : s.size < p + 10
    · rw [if_pos h1] at h; cases h
    rw [if_neg h1] at h
    obtain ⟨rfl, rfl⟩ := Prod.mk.inj (Except.ok.inj h)
    unfold uS uN
    rw [nx_ok (show ¬ s.size < p + 1 by omega), nx_ok (show ¬ s.size < p + 1 + 8 by omega), nx_ok (show ¬ s.size < p + 1 + 8 + 1 by omega), rv_ok (show ¬ s.size < p + 1 by omega), rv_ok (show ¬ s.size < p + 1 + 8 by omega), rv_ok (show ¬ s.size < p + 1 + 8 + 1 by omega)]
    exact ⟨rfl, rfl⟩
  · intro p e h
    unfold itU at h
    by_cases h1 : s.size < p + 10
    · rw [if_pos h1] at h
      obtain rfl := Except.error.inj h
      refine ⟨?_, by decide⟩
      unfold uN
      by_cases h2 : s.size < p + 1
      · exact nx_bad (nx_bad (nx_no h2) (by decide)) (by decide)
      rw [nx_ok h2]
      by_cases h3 : s.size < p + 1 + 8
      · exact nx_bad (nx_no h3) (by decide)
      rw [nx_ok h3]
      exact nx_no (by omega)
    · rw [if_neg h1] at h; cases h
theorem itX_is (s : ByteArray) : (∀ p x q, itX s p = .ok (x, q) → xS s (p, 0) = id x ∧ xN s (p, 0) = (q, 0)) ∧ (∀ p e, itX s p = .error e → (xN s (p, 0)).2 = e ∧ e ≠ 0) := by
  constructor
  · intro p x q h
    unfold itX at h
    by_cases h1 : s.size < p + 16
    · rw [if_pos h1] at h; cases h
    rw [if_neg h1] at h
    obtain ⟨rfl, rfl⟩ := Prod.mk.inj (Except.ok.inj h)
    unfold xS xN
    rw [nx_ok (show ¬ s.size < p + 8 by omega), nx_ok (show ¬ s.size < p + 8 + 8 by omega), rv_ok (show ¬ s.size < p + 8 by omega), rv_ok (show ¬ s.size < p + 8 + 8 by omega)]
    exact ⟨rfl, rfl⟩
  · intro p e h
    unfold itX at h
    by_cases h1 : s.size < p + 16
    · rw [if_pos h1] at h
      obtain rfl := Except.error.inj h
      refine ⟨?_, by decide⟩
      unfold xN
      by_cases h2 : s.size < p + 8
      · exact nx_bad (nx_no h2) (by decide)
      rw [nx_ok h2]
      exact nx_no (by omega)
    · rw [if_neg h1] at h; cases h
theorem textE_ne (s : ByteArray) (p : Nat) (h : ¬ textE s p = 0) : (tx s (p, 0)).2 = textE s p := by unfold tx; rw [if_pos rfl, if_neg h]
theorem itP_is (s : ByteArray) : (∀ p x q, itP s p = .ok (x, q) → pS s (p, 0) = to90 x ∧ pN s (p, 0) = (q, 0)) ∧ (∀ p e, itP s p = .error e → (pN s (p, 0)).2 = e ∧ e ≠ 0) := by
  constructor
  · intro p x q h
    unfold itP at h
    by_cases h1 : s.size < p + 17
    · rw [if_pos h1] at h; cases h
    rw [if_neg h1] at h
    by_cases h2 : textE s (p + 17) = 0
    · rw [if_pos h2] at h
      obtain ⟨rfl, rfl⟩ := Prod.mk.inj (Except.ok.inj h)
      unfold pS pN
      rw [nx_ok (show ¬ s.size < p + 8 by omega), nx_ok (show ¬ s.size < p + 8 + 1 by omega), nx_ok (show ¬ s.size < p + 8 + 1 + 8 by omega), rv_ok (show ¬ s.size < p + 8 by omega), rv_ok (show ¬ s.size < p + 8 + 1 by omega), rv_ok (show ¬ s.size < p + 8 + 1 + 8 by omega)]
      have h2' : textE s (p + 8 + 1 + 8) = 0 := h2
      unfold tv tx
      rw [if_pos rfl, if_pos rfl, if_pos h2', if_pos h2']
      refine ⟨rfl, ?_⟩
      show (p + 17 + 2 + textN s (p + 17), (0 : Int)) = _
      rw [show p + 17 + 2 = p + 19 by omega]
    · rw [if_neg h2] at h; cases h
  · intro p e h
    unfold itP at h
    by_cases h1 : s.size < p + 17
    · rw [if_pos h1] at h
      obtain rfl := Except.error.inj h
      refine ⟨?_, by decide⟩
      unfold pN
      by_cases h2 : s.size < p + 8
      · exact tx_bad (nx_bad (nx_bad (nx_no h2) (by decide)) (by decide)) (by decide)
      rw [nx_ok h2]
      by_cases h3 : s.size < p + 8 + 1
      · exact tx_bad (nx_bad (nx_no h3) (by decide)) (by decide)
      rw [nx_ok h3]
      exact tx_bad (nx_no (by omega)) (by decide)
    rw [if_neg h1] at h
    by_cases h2 : textE s (p + 17) = 0
    · rw [if_pos h2] at h; cases h
    · rw [if_neg h2] at h
      obtain rfl := Except.error.inj h
      refine ⟨?_, h2⟩
      unfold pN
      rw [nx_ok (show ¬ s.size < p + 8 by omega), nx_ok (show ¬ s.size < p + 8 + 1 by omega), nx_ok (show ¬ s.size < p + 8 + 1 + 8 by omega)]
      exact textE_ne s (p + 17) h2
/-- a list: how many, and they -/
theorem list_is {α β : Type} (f : α → β) (s : ByteArray) (it : Nat → Except Int (α × Nat)) (itS : Nat × Int → β) (go : Nat × Int → Nat × Int)
    (hok : ∀ p x q, it p = .ok (x, q) → itS (p, 0) = f x ∧ go (p, 0) = (q, 0)) (hno : ∀ p e, it p = .error e → (go (p, 0)).2 = e ∧ e ≠ 0) (hb : ∀ (e : Int), e ≠ 0 → ∀ st, st.2 = e → (go st).2 = e) (most p : Nat) :
    (∀ l q, listI s it most p = .ok (l, q) → its itS go (mx s most (p, 0)) (mv s most (p, 0)).toNat = ((q, 0), l.map f)) ∧ (∀ e, listI s it most p = .error e → (its itS go (mx s most (p, 0)) (mv s most (p, 0)).toNat).1.2 = e ∧ e ≠ 0) := by
  unfold listI
  by_cases h1 : s.size < p + 1
  · refine ⟨fun l q h => ?_, fun e h => ?_⟩
    · rw [if_pos h1] at h; cases h
    · rw [if_pos h1] at h
      obtain rfl := Except.error.inj h
      refine ⟨its_bad (hb 10 (by decide)) ?_ _, by decide⟩
      unfold mx
      rw [if_neg (by rw [nx_no h1]; decide)]
      exact nx_no h1
  rw [if_neg h1]
  by_cases h2 : (most : Int) < rdv s p 1
  · refine ⟨fun l q h => ?_, fun e h => ?_⟩
    · rw [if_pos h2] at h; cases h
    · rw [if_pos h2] at h
      obtain rfl := Except.error.inj h
      refine ⟨its_bad (hb 1 (by decide)) ?_ _, by decide⟩
      unfold mx
      rw [nx_ok h1, rv_ok h1, if_pos rfl, if_pos h2]
  rw [if_neg h2]
  have e1 : mx s most (p, 0) = (p + 1, 0) := by unfold mx; rw [nx_ok h1, rv_ok h1, if_pos rfl, if_neg h2]
  have e2 : mv s most (p, 0) = rdv s p 1 := by unfold mv; rw [nx_ok h1, rv_ok h1, if_pos rfl, if_neg h2]
  rw [e1, e2]
  obtain ⟨r1, r2⟩ := run_its f s it itS go hok hno hb (rdv s p 1).toNat (p + 1) []
  refine ⟨fun l q h => ?_, fun e h => r2 e h⟩
  obtain ⟨l', rfl, k⟩ := r1 l q h
  exact k
theorem map_id' {α : Type} (l : List α) : l.map id = l := List.map_id l
theorem from_to (l : List S53) : (l.map to90).map from90 = l := by
  rw [List.map_map]
  conv => rhs; rw [← List.map_id l]
  exact List.map_congr_left (fun _ _ => rfl)
/-- the reference's answer is letter.Decode's -/
def outD : Except Int S32 → Except Int S38
  | .error e => .error e
  | .ok x => .ok (to38 x)
theorem refD_is (s : ByteArray) : refD s = outD (decP s) := by
  have d10 : (10 : Int) ≠ 0 := by decide
  unfold decP
  by_cases h0 : s.size < 1
  · rw [if_pos h0]; exact fin1 (nx_no (by omega)) d10
  rw [if_neg h0]
  have T1 : t1 s = (1, 0) := by unfold t1; rw [nx_ok (by omega)]
  unfold d1
  by_cases h1 : s.size < 2
  · rw [if_pos h1]; exact fin2 (by unfold t2; rw [T1]; exact nx_no (by omega)) d10
  rw [if_neg h1]
  have T2 : t2 s = (2, 0) := by unfold t2; rw [T1, nx_ok (by omega)]
  unfold d2
  by_cases h2 : s.size < 3
  · rw [if_pos h2]; exact fin3 (by unfold t3; rw [T2]; exact nx_no (by omega)) d10
  rw [if_neg h2]
  have T3 : t3 s = (3, 0) := by unfold t3; rw [T2, nx_ok (by omega)]
  unfold d3
  by_cases h3 : s.size < 11
  · rw [if_pos h3]; exact fin4 (by unfold t4; rw [T3]; exact nx_no (by omega)) d10
  rw [if_neg h3]
  have T4 : t4 s = (11, 0) := by unfold t4; rw [T3, nx_ok (by omega)]
  unfold d4
  by_cases h4 : s.size < 12
  · rw [if_pos h4]; exact fin5 (by unfold t5; rw [T4]; exact nx_no (by omega)) d10
  rw [if_neg h4]
  have T5 : t5 s = (12, 0) := by unfold t5; rw [T4, nx_ok (by omega)]
  unfold d5
  have LU := list_is id s (itU s) (uS s) (uN s) (itU_is s).1 (itU_is s).2 (fun e he => uN_bad he) 8 12
  rcases except_or (listI s (itU s) 8 12) with ⟨e, hL⟩ | ⟨⟨l5, q⟩, hL⟩
  · obtain ⟨k1, k2⟩ := LU.2 e hL
    rw [hL]
    exact fin7 (by unfold t7 t6 nU; rw [T5]; exact k1) k2
  have K := LU.1 l5 q hL
  rw [map_id'] at K
  rw [hL]
  show refD s = outD (d6 s l5 q)
  have T7 : t7 s = (q, 0) := by unfold t7 t6 nU; rw [T5, K]
  have EU : lU s = l5 := by unfold lU t6 nU; rw [T5, K]
  unfold d6
  by_cases h6 : s.size < q + 16
  · rw [if_pos h6]
    by_cases h6b : s.size < q + 8
    · exact fin8 (by unfold t8; rw [T7]; exact nx_no h6b) d10
    · exact fin9 (by unfold t9 t8; rw [T7, nx_ok h6b]; exact nx_no (by omega)) d10
  rw [if_neg h6]
  have T8 : t8 s = (q + 8, 0) := by unfold t8; rw [T7, nx_ok (by omega)]
  have T9 : t9 s = (q + 16, 0) := by unfold t9; rw [T8, nx_ok (by omega)]
  unfold d7
  by_cases h7 : s.size < q + 24
  · rw [if_pos h7]; exact fin10 (by unfold t10; rw [T9]; exact nx_no (by omega)) d10
  rw [if_neg h7]
  have T10 : t10 s = (q + 24, 0) := by unfold t10; rw [T9, nx_ok (by omega)]
  unfold d8
  by_cases h8 : s.size < q + 32
  · rw [if_pos h8]; exact fin11 (by unfold t11; rw [T10]; exact nx_no (by omega)) d10
  rw [if_neg h8]
  have T11 : t11 s = (q + 32, 0) := by unfold t11; rw [T10, nx_ok (by omega)]
  unfold d9
  by_cases h9 : s.size < q + 48
  · rw [if_pos h9]
    by_cases h9b : s.size < q + 32 + 8
    · exact fin12 (by unfold t12; rw [T11]; exact nx_no h9b) d10
    · exact fin13 (by unfold t13 t12; rw [T11, nx_ok h9b]; exact nx_no (by omega)) d10
  rw [if_neg h9]
  have T12 : t12 s = (q + 32 + 8, 0) := by unfold t12; rw [T11, nx_ok (by omega)]
  have T13 : t13 s = (q + 48, 0) := by unfold t13; rw [T12, nx_ok (by omega)]
  unfold Go.Proofs.Ytondgoabnmgcaaa.B.d10
  by_cases h10 : s.size < q + 56
  · rw [if_pos h10]; exact fin14 (by unfold t14; rw [T13]; exact nx_no (by omega)) d10
  rw [if_neg h10]
  have T14 : t14 s = (q + 56, 0) := by unfold t14; rw [T13, nx_ok (by omega)]
  unfold d11
  have LP := list_is to90 s (itP s) (pS s) (pN s) (itP_is s).1 (itP_is s).2 (fun e he => pN_bad he) 6 (q + 56)
  rcases except_or (listI s (itP s) 6 (q + 56)) with ⟨e, hL2⟩ | ⟨⟨l13, q2⟩, hL2⟩
  · obtain ⟨k1, k2⟩ := LP.2 e hL2
    rw [hL2]
    exact fin16 (by unfold t16 t15 nP; rw [T14]; exact k1) k2
  have K2 := LP.1 l13 q2 hL2
  rw [hL2]
  show refD s = outD (d12 s l5 q l13 q2)
  have T16 : t16 s = (q2, 0) := by unfold t16 t15 nP; rw [T14, K2]
  have EP : lP s = l13.map to90 := by unfold lP t15 nP; rw [T14, K2]
  unfold d12
  have LX := list_is id s (itX s) (xS s) (xN s) (itX_is s).1 (itX_is s).2 (fun e he => xN_bad he) 16 q2
  rcases except_or (listI s (itX s) 16 q2) with ⟨e, hL3⟩ | ⟨⟨l14, q3⟩, hL3⟩
  · obtain ⟨k1, k2⟩ := LX.2 e hL3
    rw [hL3]
    exact fin18 (by unfold t18 t17 nX; rw [T16]; exact k1) k2
  have K3 := LX.1 l14 q3 hL3
  rw [map_id'] at K3
  rw [hL3]
  show refD s = outD (d13 s l5 q l13 l14 q3)
  have T18 : t18 s = (q3, 0) := by unfold t18 t17 nX; rw [T16, K3]
  have EX : lX s = l14 := by unfold lX t17 nX; rw [T16, K3]
  unfold d13
  by_cases h13 : s.size < q3 + 8
  · rw [if_pos h13]; exact fin19 (by unfold t19; rw [T18]; exact nx_no h13) d10
  rw [if_neg h13]
  have T19 : t19 s = (q3 + 8, 0) := by unfold t19; rw [T18, nx_ok h13]
  have EF : fL s = loadF s q3 := by unfold fL loadF; rw [T18, rv_ok h13]
  have r0 : rv s 1 (0, 0) = rdv s 0 1 := rv_ok (by omega)
  have r1 : rv s 1 (t1 s) = rdv s 1 1 := by rw [T1]; exact rv_ok (by omega)
  have r2 : rv s 1 (t2 s) = rdv s 2 1 := by rw [T2]; exact rv_ok (by omega)
  have r3 : rv s 8 (t3 s) = rdv s 3 8 := by rw [T3]; exact rv_ok (by omega)
  have r4 : rv s 1 (t4 s) = rdv s 11 1 := by rw [T4]; exact rv_ok (by omega)
  have r7 : rv s 8 (t7 s) = rdv s q 8 := by rw [T7]; exact rv_ok (by omega)
  have r8 : rv s 8 (t8 s) = rdv s (q + 8) 8 := by rw [T8]; exact rv_ok (by omega)
  have r9 : rv s 8 (t9 s) = rdv s (q + 16) 8 := by rw [T9]; exact rv_ok (by omega)
  have r10 : rv s 8 (t10 s) = rdv s (q + 24) 8 := by rw [T10]; exact rv_ok (by omega)
  have r11 : rv s 8 (t11 s) = rdv s (q + 32) 8 := by rw [T11]; exact rv_ok (by omega)
  have r12 : rv s 8 (t12 s) = rdv s (q + 32 + 8) 8 := by rw [T12]; exact rv_ok (by omega)
  have r13 : rv s 8 (t13 s) = rdv s (q + 48) 8 := by rw [T13]; exact rv_ok (by omega)
  unfold refD refB
  rw [T19, if_neg (show ¬ ¬ (0 : Int) = 0 by decide), EU, EP, EX, EF, from_to, r0, r1, r2, r4]
  unfold d14
  by_cases h14 : q3 + 8 < s.size
  · rw [if_pos (by show 0 < (s.size : Int) - ((q3 + 8 : Nat) : Int); omega), if_pos h14]; rfl
  rw [if_neg (by show ¬ 0 < (s.size : Int) - ((q3 + 8 : Nat) : Int); omega), if_neg h14]
  unfold d15
  by_cases h15 : rdv s 0 1 < 1 ∨ 14 < rdv s 0 1
  · rw [if_pos h15, if_pos h15]; rfl
  rw [if_neg h15, if_neg h15]
  unfold d16
  by_cases h16 : mayL (rdv s 0 1) (rdv s 1 1) (rdv s 2 1) (rdv s 11 1) l5 l13 l14 (loadF s q3) = false
  · rw [if_pos h16, if_pos h16]; rfl
  rw [if_neg h16, if_neg h16]
  unfold refL outD to38 letterOf
  rw [EU, EP, EX, EF, r0, r1, r2, r3, r4, r7, r8, r9, r10, r11, r12, r13]
end Go.Proofs.Ytondgoabnmgcaaa.B
end
