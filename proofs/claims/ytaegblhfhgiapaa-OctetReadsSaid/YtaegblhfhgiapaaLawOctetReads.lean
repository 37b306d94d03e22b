/- The row of OctetReads, as the print writes the rows of other laws. -/
import Derived.Test.YtaegblhfhgiapaaRows
import Derived.Test.YtaegblhfhgiapaaReadsEnd
import Derived.Test.YtaegblhfhgiapaaOpen
import Derived.WalkKit
import Derived.ProofKit
import Derived.OpenShut
import Derived.ShutString
import Derived.ChangeOld
import Derived.Below
import Derived.SizedLaws
namespace Go.Proofs.Ytaegblhfhgiapaa.octetReads
open Go.ChangeShapes Go.WideShapes Go.ChangeAt Go.RowKit
open Go.ChangeMaps (open_string shut_string)
open Go.Proofs.YtaegblhfhgiapaaW.PrintWords Go.Proofs.Ytaegblhfhgiapaa.Open
set_option linter.unusedVariables false
theorem opens45 : Opens Try.prog 45 R.k45 R.wfIt := by
  have hs : Opens Try.prog 45 (Kd.pair (Kd.int .i64) (Kd.pair (Kd.int .i64) (Kd.pair (Kd.int .i64) (Kd.pair (Kd.int .u64) (Kd.pair R.kf Kd.string))))) (fun x => (Lit.int .i64 x.1).wf = true ∧ (Lit.int .i64 x.2.1).wf = true ∧ (Lit.int .i64 x.2.2.1).wf = true ∧ (Lit.int .u64 x.2.2.2.1).wf = true ∧ x.2.2.2.2.1 < 18446744073709551616 ∧ x.2.2.2.2.2.size ≤ maxLen) := by
    refine Opens.struct (d := (Kd.pair (Kd.int .i64) (Kd.pair (Kd.int .i64) (Kd.pair (Kd.int .i64) (Kd.pair (Kd.int .u64) (Kd.pair R.kf Kd.string)))))) (WF := (fun x => (Lit.int .i64 x.1).wf = true ∧ (Lit.int .i64 x.2.1).wf = true ∧ (Lit.int .i64 x.2.2.1).wf = true ∧ (Lit.int .u64 x.2.2.2.1).wf = true ∧ x.2.2.2.2.1 < 18446744073709551616 ∧ x.2.2.2.2.2.size ≤ maxLen)) ?_ Try.underlying45 (by kernel_rfl)
    refine OpensFs.cons (d := (Kd.int .i64)) (d' := (Kd.pair (Kd.int .i64) (Kd.pair (Kd.int .i64) (Kd.pair (Kd.int .u64) (Kd.pair R.kf Kd.string))))) (WF := (fun n => (Lit.int .i64 n).wf = true)) (WF' := (fun x => (Lit.int .i64 x.1).wf = true ∧ (Lit.int .i64 x.2.1).wf = true ∧ (Lit.int .u64 x.2.2.1).wf = true ∧ x.2.2.2.1 < 18446744073709551616 ∧ x.2.2.2.2.size ≤ maxLen)) (off := 0) (off' := 1) (Opens.int Try.underlying3) rfl (by kernel_rfl) rfl ?_
    refine OpensFs.cons (d := (Kd.int .i64)) (d' := (Kd.pair (Kd.int .i64) (Kd.pair (Kd.int .u64) (Kd.pair R.kf Kd.string)))) (WF := (fun n => (Lit.int .i64 n).wf = true)) (WF' := (fun x => (Lit.int .i64 x.1).wf = true ∧ (Lit.int .u64 x.2.1).wf = true ∧ x.2.2.1 < 18446744073709551616 ∧ x.2.2.2.size ≤ maxLen)) (off := 1) (off' := 2) (Opens.int Try.underlying3) rfl (by kernel_rfl) rfl ?_
    refine OpensFs.cons (d := (Kd.int .i64)) (d' := (Kd.pair (Kd.int .u64) (Kd.pair R.kf Kd.string))) (WF := (fun n => (Lit.int .i64 n).wf = true)) (WF' := (fun x => (Lit.int .u64 x.1).wf = true ∧ x.2.1 < 18446744073709551616 ∧ x.2.2.size ≤ maxLen)) (off := 2) (off' := 3) (Opens.int Try.underlying3) rfl (by kernel_rfl) rfl ?_
    refine OpensFs.cons (d := (Kd.int .u64)) (d' := (Kd.pair R.kf Kd.string)) (WF := (fun n => (Lit.int .u64 n).wf = true)) (WF' := (fun x => x.1 < 18446744073709551616 ∧ x.2.size ≤ maxLen)) (off := 3) (off' := 4) (Opens.int Try.underlying22) rfl (by kernel_rfl) rfl ?_
    refine OpensFs.cons (d := R.kf) (d' := Kd.string) (WF := (fun n => n < 18446744073709551616)) (WF' := (fun s => s.size ≤ maxLen)) (off := 4) (off' := 5) (Opens.float Try.underlying32) rfl (by kernel_rfl) rfl ?_
    exact OpensFs.one (d := Kd.string) (WF := (fun s => s.size ≤ maxLen)) (off := 5) (Opens.string Try.underlying9) rfl (by kernel_rfl)
  have h := Opens.iso hs (fun x : R.It => (x.kind, x.width, x.most, x.n, x.x, x.s)) (fun y => ⟨y.1, y.2.1, y.2.2.1, y.2.2.2.1, y.2.2.2.2.1, y.2.2.2.2.2⟩) (fun _ => rfl)
  exact h
theorem laidOut : laidOutB Try.prog = true := by kernel_rfl
theorem own : ownKnob Try.prog.godebug = none := by kernel_rfl
set_option maxRecDepth 100000 in
theorem lifted (os : Os) (started : os.Started) (H : Type) (enc : TypeId × Value → H) :
    ReturnsInHanded {} Try.checked os 7 .any (Rows.octetReadsSpec.pre6 enc Try.prog Try.f7 Rows.octetReadsRow.domain false) (Rows.octetReadsSpec.post enc Try.prog Try.f7 false true false false) := by
  refine returnsInHanded_of_change_sized (C := Try.checked) own started (by kernel_rfl) Try.func7
    (ChangeSpec.witness6 (enc := enc) (C := Try.checked) false ⟨#[], #[.string ByteArray.empty, .slice none 0 0], []⟩ 8 (by kernel_rfl) (by kernel_rfl) (by kernel_rfl) (by kernel_rfl)) ?_
  intro W base args ds gs before hval0 hW hcnd hsz0 _
  have hsz : (DataW.weightsEach Try.prog (Try.f7.params.toList ++ Rows.octetReadsSpec.plain.varTypes Try.prog) (ds ++ gs)).all (· ≤ reachBytes) = true := hsz0
  have hval : ∀ (j : Nat) t v, Try.f7.params[j]? = some t → args[j]? = some v → Value.okWide Try.prog W .any base t v := hval0
  have hW' := hW
  obtain ⟨p, q, hA0, hV, rfl, hfz, hnd⟩ := hW
  have hA : DataW.TrodAll enc Try.prog W 0 (fun _ => true) true Try.f7.params.toList args.toList ds p := hA0
  rw [Try.params7] at hA hval hsz
  obtain ⟨v0, vs0, d0, ds0, p0, q0, hargs, rfl, rfl, h0, r0⟩ := trodAll_cons hA
  obtain ⟨v1, vs1, d1, ds1, p1, q1, rfl, rfl, rfl, h1, r1⟩ := trodAll_cons r0
  obtain ⟨rfl, rfl, rfl⟩ := trodAll_nil r1
  obtain rfl : args = #[v0, v1] := by cases args; simp_all
  obtain ⟨rfl, rfl⟩ := trodVars_none hV
  obtain ⟨a0, rfl, rfl, rfl, w0⟩ := open_string Try.underlying9 (hval 0 9 v0 rfl rfl) h0
  obtain ⟨a1, len1, cap1, rfl⟩ := okWide_slice Try.underlying43 (hval 1 43 v1 rfl rfl)
  have k1 := h1
  have lt1 : ∀ x ∈ p1, x.block < W.heap.size := by obtain ⟨m, hm⟩ := k1; exact DataW.trod_lt m _ _ _ hm
  obtain ⟨l1, hK1, hW1⟩ : ∃ l, (Kd.slice 45 R.k45).K W l [.slice a1 len1 cap1] ∧ (fun l => l.length ≤ maxLen ∧ ∀ a ∈ l, R.wfIt a) l := by
    obtain ⟨fuel, hf⟩ := h1
    exact (Opens.slice opens45 Try.underlying43 (by kernel_rfl)) H enc W _ _ _ fuel _ _ hf
  obtain ⟨A1, c1, he1, hl1, hr1⟩ := hK1
  obtain ⟨rfl, rfl, rfl⟩ : a1 = A1 ∧ len1 = l1.length ∧ cap1 = c1 := by simpa using he1
  clear hA0 hval0 hsz0 hsz
  refine (R.reads_law a0 a1 cap1 l1 W hr1).mono fun e W' ⟨he, bel⟩ => ?_
  subst he
  exact ⟨_, rfl, _, _, _, [], _, [], hW', trodAll_mk1 (shut_bool Try.underlying4 _), (trodAll_cons_mk (shut_string Try.underlying9 w0) (trodAll_cons_mk (Below.trod laidOut (by kernel_rfl) (of_decide_eq_true (by kernel_rfl)) k1 bel lt1) trodAll_mk0)), rfl, bel.frame _, fun h => by cases h⟩
theorem over : Rows.octetReadsRow.holds Try.pinned (OpenSpec.ofChange Rows.octetReadsSpec) :=
  OpenClaim.holds_of_wide 7 Try.f7 rfl rfl rfl rfl rfl rfl rfl ⟨rfl, rfl, rfl, rfl, rfl⟩ rfl rfl rfl rfl rfl (by kernel_rfl) Try.func7 (by kernel_rfl)
    (of_decide_eq_true (by kernel_rfl)) (by unfold Func.isWrapper; first | (rw [if_pos (by decide +kernel)]; kernel_rfl) | (rw [if_neg (by decide +kernel)]; exact ⟨rfl, rfl⟩))
    (fun os started H enc _ => lifted os started H enc)
theorem proved : Rows.OctetReadsSaid := over
#print axioms proved
end Go.Proofs.Ytaegblhfhgiapaa.octetReads
namespace Go.Proofs.Ytaegblhfhgiapaa
/-- The row, under a short name, for the claim. -/
theorem octetReads_holds : Rows.OctetReadsSaid := octetReads.proved
end Go.Proofs.Ytaegblhfhgiapaa
