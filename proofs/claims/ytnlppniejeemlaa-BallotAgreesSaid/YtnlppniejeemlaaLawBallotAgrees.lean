/- The row of BallotAgrees: the statement's walk, its arguments opened. -/
import Derived.Test.YtnlppniejeemlaaRows
import Derived.Test.YtnlppniejeemlaaAgree2
import Derived.Test.YtnlppniejeemlaaOpen
import Derived.WalkKit
import Derived.ProofKit
import Derived.OpenShut
import Derived.ShutString
import Derived.ChangeOld
import Derived.Below
import Derived.SizedLaws
namespace Go.Proofs.Ytnlppniejeemlaa.ballotAgrees
open Go.ChangeShapes Go.WideShapes Go.ChangeAt Go.RowKit
open Go.ChangeMaps (open_string shut_string)
open Go.Proofs.YtnlppniejeemlaaW.PrintWords Go.Proofs.Ytnlppniejeemlaa.B Go.Proofs.Ytnlppniejeemlaa.Open
set_option linter.unusedVariables false
theorem own : ownKnob Try.prog.godebug = none := by kernel_rfl
theorem laidOut : laidOutB Try.prog = true := by kernel_rfl
def wf57 (x : S57) : Prop := (Lit.int .u8 x.node).wf = true ∧ (Lit.int .u8 x.fr).wf = true ∧ (Lit.int .u8 x.to_).wf = true ∧ (Lit.int .u8 x.skip).wf = true ∧ (Lit.int .u16 x.want).wf = true
theorem opens57 : Opens Try.prog 57 k57 wf57 := by
  have hs : Opens Try.prog 57 (Kd.pair (Kd.int .u8) (Kd.pair (Kd.int .u8) (Kd.pair (Kd.int .u8) (Kd.pair (Kd.int .u8) (Kd.int .u16))))) (fun x => (fun n => (Lit.int .u8 n).wf = true) x.1 ∧ (fun x => (fun n => (Lit.int .u8 n).wf = true) x.1 ∧ (fun x => (fun n => (Lit.int .u8 n).wf = true) x.1 ∧ (fun x => (fun n => (Lit.int .u8 n).wf = true) x.1 ∧ (fun n => (Lit.int .u16 n).wf = true) x.2) x.2) x.2) x.2) := by
    refine Opens.struct (d := (Kd.pair (Kd.int .u8) (Kd.pair (Kd.int .u8) (Kd.pair (Kd.int .u8) (Kd.pair (Kd.int .u8) (Kd.int .u16)))))) (WF := (fun x => (fun n => (Lit.int .u8 n).wf = true) x.1 ∧ (fun x => (fun n => (Lit.int .u8 n).wf = true) x.1 ∧ (fun x => (fun n => (Lit.int .u8 n).wf = true) x.1 ∧ (fun x => (fun n => (Lit.int .u8 n).wf = true) x.1 ∧ (fun n => (Lit.int .u16 n).wf = true) x.2) x.2) x.2) x.2)) ?_ Try.underlying57 (by kernel_rfl)
    refine @OpensFs.cons Try.prog _ _ 0 1 _ _ (Kd.int .u8) (Kd.pair (Kd.int .u8) (Kd.pair (Kd.int .u8) (Kd.pair (Kd.int .u8) (Kd.int .u16)))) (fun n => (Lit.int .u8 n).wf = true) (fun x => (fun n => (Lit.int .u8 n).wf = true) x.1 ∧ (fun x => (fun n => (Lit.int .u8 n).wf = true) x.1 ∧ (fun x => (fun n => (Lit.int .u8 n).wf = true) x.1 ∧ (fun n => (Lit.int .u16 n).wf = true) x.2) x.2) x.2) ?_ ?_ ?_ ?_ ?_
    · exact Opens.int Try.underlying5
    · rfl
    · kernel_rfl
    · rfl
    refine @OpensFs.cons Try.prog _ _ 1 2 _ _ (Kd.int .u8) (Kd.pair (Kd.int .u8) (Kd.pair (Kd.int .u8) (Kd.int .u16))) (fun n => (Lit.int .u8 n).wf = true) (fun x => (fun n => (Lit.int .u8 n).wf = true) x.1 ∧ (fun x => (fun n => (Lit.int .u8 n).wf = true) x.1 ∧ (fun n => (Lit.int .u16 n).wf = true) x.2) x.2) ?_ ?_ ?_ ?_ ?_
    · exact Opens.int Try.underlying5
    · rfl
    · kernel_rfl
    · rfl
    refine @OpensFs.cons Try.prog _ _ 2 3 _ _ (Kd.int .u8) (Kd.pair (Kd.int .u8) (Kd.int .u16)) (fun n => (Lit.int .u8 n).wf = true) (fun x => (fun n => (Lit.int .u8 n).wf = true) x.1 ∧ (fun n => (Lit.int .u16 n).wf = true) x.2) ?_ ?_ ?_ ?_ ?_
    · exact Opens.int Try.underlying5
    · rfl
    · kernel_rfl
    · rfl
    refine @OpensFs.cons Try.prog _ _ 3 4 _ _ (Kd.int .u8) (Kd.int .u16) (fun n => (Lit.int .u8 n).wf = true) (fun n => (Lit.int .u16 n).wf = true) ?_ ?_ ?_ ?_ ?_
    · exact Opens.int Try.underlying5
    · rfl
    · kernel_rfl
    · rfl
    refine @OpensFs.one Try.prog _ 4 _ (Kd.int .u16) (fun n => (Lit.int .u16 n).wf = true) ?_ ?_ ?_
    · exact Opens.int Try.underlying55
    · rfl
    · kernel_rfl
  have h := Opens.iso hs (fun x : S57 => (x.node, x.fr, x.to_, x.skip, x.want)) (fun y => ⟨y.1, y.2.1, y.2.2.1, y.2.2.2.1, y.2.2.2.2⟩) (fun _ => rfl)
  exact h
set_option maxRecDepth 100000 in
theorem lifted (os : Os) (started : os.Started) (H : Type) (enc : TypeId × Value → H) :
    ReturnsInHanded {} Try.checked os 6 .any (Rows.ballotAgreesSpec.pre6 enc Try.prog Try.f6 Rows.ballotAgreesRow.domain false) (Rows.ballotAgreesSpec.post enc Try.prog Try.f6 false true false false) := by
  refine returnsInHanded_of_change_sized (C := Try.checked) own started (by kernel_rfl) Try.func6
    (ChangeSpec.witness6 (enc := enc) (C := Try.checked) false ⟨#[], #[.int .u8 0, .slice none 0 0], []⟩ 8 (by kernel_rfl) (by kernel_rfl) (by kernel_rfl) (by kernel_rfl)) ?_
  intro W base args ds gs before hval0 hW hcnd hsz0 _
  have hval : ∀ (j : Nat) t v, Try.f6.params[j]? = some t → args[j]? = some v → Value.okWide Try.prog W .any base t v := hval0
  have hW' := hW
  obtain ⟨p, q, hA0, hV, rfl, hfz, hnd⟩ := hW
  have hA : DataW.TrodAll enc Try.prog W 0 (fun _ => true) true Try.f6.params.toList args.toList ds p := hA0
  rw [Try.params6] at hA hval
  obtain ⟨v0, vs0, d0, ds0, p0, q0, hargs, rfl, rfl, h0, r0⟩ := trodAll_cons hA
  obtain ⟨v1, vs1, d1, ds1, p1, q1, rfl, rfl, rfl, h1, r1⟩ := trodAll_cons r0
  obtain ⟨rfl, rfl, rfl⟩ := trodAll_nil r1
  obtain rfl : args = #[v0, v1] := by cases args; simp_all
  obtain ⟨rfl, rfl⟩ := trodVars_none hV
  obtain ⟨a0, rfl, rfl, rfl, w0⟩ := open_int Try.underlying5 (hval 0 5 v0 rfl rfl) h0
  obtain ⟨a1, len1, cap1, rfl⟩ := okWide_slice Try.underlying51 (hval 1 51 v1 rfl rfl)
  have k1 := h1
  have lt1 : ∀ x ∈ p1, x.block < W.heap.size := by obtain ⟨m, hm⟩ := k1; exact DataW.trod_lt m _ _ _ hm
  obtain ⟨l1, hK1, hW1⟩ : ∃ l, (Kd.slice 57 k57).K W l [.slice a1 len1 cap1] ∧ (fun l => l.length ≤ maxLen ∧ ∀ a ∈ l, wf57 a) l := by
    obtain ⟨fuel, hf⟩ := h1
    exact (Opens.slice opens57 Try.underlying51 (by kernel_rfl)) H enc W _ _ _ fuel _ _ hf
  obtain ⟨A1, c1, he1, hl1, hr1⟩ := hK1
  obtain ⟨rfl, rfl, rfl⟩ : a1 = A1 ∧ len1 = l1.length ∧ cap1 = c1 := by simpa using he1
  clear hA0 hval0 hsz0
  refine (ballotAgrees_row a0 _ _ l1 W w0 hr1 hl1 hW1.2).mono fun e W' ⟨he, bel⟩ => ?_
  subst he
  exact ⟨_, rfl, _, _, _, [], _, [], hW', trodAll_mk1 (shut_bool Try.underlying4 _), (trodAll_cons_mk (shut_int Try.underlying5 w0) (trodAll_cons_mk (Below.trod laidOut (by kernel_rfl) (of_decide_eq_true (by kernel_rfl)) k1 bel lt1) trodAll_mk0)), rfl, bel.frame _, fun h => by cases h⟩
theorem over : Rows.ballotAgreesRow.holds Try.pinned (OpenSpec.ofChange Rows.ballotAgreesSpec) :=
  OpenClaim.holds_of_wide 6 Try.f6 rfl rfl rfl rfl rfl rfl rfl ⟨rfl, rfl, rfl, rfl, rfl⟩ rfl rfl rfl rfl rfl (by kernel_rfl) Try.func6 (by kernel_rfl)
    (of_decide_eq_true (by kernel_rfl)) (by unfold Func.isWrapper; first | (rw [if_pos (by decide +kernel)]; kernel_rfl) | (rw [if_neg (by decide +kernel)]; exact ⟨rfl, rfl⟩))
    (fun os started H enc _ => lifted os started H enc)
theorem proved : Rows.BallotAgreesSaid := over
#print axioms proved
end Go.Proofs.Ytnlppniejeemlaa.ballotAgrees
namespace Go.Proofs.Ytnlppniejeemlaa
/-- The row, under a short name, for the claim. -/
theorem ballotAgrees_holds : Rows.BallotAgreesSaid := ballotAgrees.proved
end Go.Proofs.Ytnlppniejeemlaa
