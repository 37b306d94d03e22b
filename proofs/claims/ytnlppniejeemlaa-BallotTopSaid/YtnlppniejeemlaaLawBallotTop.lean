-- printed by this session's own copy of the print program (wip/patch), for seat Ytnlppniejeemlaa
import Derived.Test.YtnlppniejeemlaaRows
import Derived.Test.YtnlppniejeemlaaB9
import Derived.Test.YtnlppniejeemlaaPureBallotTop
import Derived.Test.YtnlppniejeemlaaOpen
import Derived.WalkKit
import Derived.ProofKit
import Derived.OpenShut
import Derived.ShutString
import Derived.ChangeOld
import Derived.Below
import Derived.SizedLaws
namespace Go.Proofs.Ytnlppniejeemlaa.ballotTop
open Go.ChangeShapes Go.WideShapes Go.ChangeAt Go.RowKit
open Go.ChangeMaps (open_string shut_string)
open Go.Proofs.YtnlppniejeemlaaW.PrintWords Go.Proofs.Ytnlppniejeemlaa.B Go.Proofs.Ytnlppniejeemlaa.Open
theorem own : ownKnob Try.prog.godebug = none := by kernel_rfl
theorem laidOut : laidOutB Try.prog = true := by kernel_rfl
theorem opens27 : Opens Try.prog 27 k27 wf27 := by
  have hs : Opens Try.prog 27 (Kd.pair (Kd.int .u64) (Kd.int .u64)) (fun x => (fun n => (Lit.int .u64 n).wf = true) x.1 ∧ (fun n => (Lit.int .u64 n).wf = true) x.2) := by
    refine Opens.struct (d := (Kd.pair (Kd.int .u64) (Kd.int .u64))) (WF := (fun x => (fun n => (Lit.int .u64 n).wf = true) x.1 ∧ (fun n => (Lit.int .u64 n).wf = true) x.2)) ?_ Try.underlying27 (by kernel_rfl)
    refine OpensFs.cons (d := (Kd.int .u64)) (d' := (Kd.int .u64)) (WF := (fun n => (Lit.int .u64 n).wf = true)) (WF' := (fun n => (Lit.int .u64 n).wf = true)) (off := 0) (off' := 1) (Opens.int Try.underlying25) rfl (by kernel_rfl) rfl ?_
    exact OpensFs.one (d := (Kd.int .u64)) (WF := (fun n => (Lit.int .u64 n).wf = true)) (off := 1) (Opens.int Try.underlying25) rfl (by kernel_rfl)
  have h := Opens.iso hs (fun x : S27 => (x.f0, x.f1)) (fun y => ⟨y.1, y.2⟩) (fun _ => rfl)
  exact h
theorem opens36 : Opens Try.prog 36 k36 wf36 := by
  have hs : Opens Try.prog 36 (Kd.pair Kd.bool (Kd.pair (Kd.int .u64) k27)) (fun x => (fun _ => True) x.1 ∧ (fun x => (fun n => (Lit.int .u64 n).wf = true) x.1 ∧ wf27 x.2) x.2) := by
    refine Opens.struct (d := (Kd.pair Kd.bool (Kd.pair (Kd.int .u64) k27))) (WF := (fun x => (fun _ => True) x.1 ∧ (fun x => (fun n => (Lit.int .u64 n).wf = true) x.1 ∧ wf27 x.2) x.2)) ?_ Try.underlying36 (by kernel_rfl)
    refine OpensFs.cons (d := Kd.bool) (d' := (Kd.pair (Kd.int .u64) k27)) (WF := (fun _ => True)) (WF' := (fun x => (fun n => (Lit.int .u64 n).wf = true) x.1 ∧ wf27 x.2)) (off := 0) (off' := 1) (Opens.bool Try.underlying4) rfl (by kernel_rfl) rfl ?_
    refine OpensFs.cons (d := (Kd.int .u64)) (d' := k27) (WF := (fun n => (Lit.int .u64 n).wf = true)) (WF' := wf27) (off := 1) (off' := 2) (Opens.int Try.underlying25) rfl (by kernel_rfl) rfl ?_
    exact OpensFs.one (d := k27) (WF := wf27) (off := 2) opens27 rfl (by kernel_rfl)
  have h := Opens.iso hs (fun x : S36 => (x.f0, x.f1, x.f2)) (fun y => ⟨y.1, y.2.1, y.2.2⟩) (fun _ => rfl)
  exact h
set_option maxRecDepth 100000 in
theorem lifted (os : Os) (started : os.Started) (H : Type) (enc : TypeId × Value → H) :
    ReturnsInHanded {} Try.checked os 3 .any (Rows.ballotTopSpec.pre6 enc Try.prog Try.f3 Rows.ballotTopRow.domain false) (Rows.ballotTopSpec.post enc Try.prog Try.f3 false true false false) := by
  refine returnsInHanded_of_change_sized (C := Try.checked) own started (by kernel_rfl) Try.func3
    (ChangeSpec.witness6 (enc := enc) (C := Try.checked) false ⟨#[], #[.slice none 0 0], []⟩ 8 (by kernel_rfl) (by kernel_rfl) (by kernel_rfl) (by kernel_rfl)) ?_
  intro W base args ds gs before hval0 hW hcnd hsz0 _
  have hval : ∀ (j : Nat) t v, Try.f3.params[j]? = some t → args[j]? = some v → Value.okWide Try.prog W .any base t v := hval0
  have hW' := hW
  obtain ⟨p, q, hA0, hV, rfl, hfz, hnd⟩ := hW
  have hA : DataW.TrodAll enc Try.prog W 0 (fun _ => true) true Try.f3.params.toList args.toList ds p := hA0
  rw [Try.params3] at hA hval
  obtain ⟨v0, vs0, d0, ds0, p0, q0, hargs, rfl, rfl, h0, r0⟩ := trodAll_cons hA
  obtain ⟨rfl, rfl, rfl⟩ := trodAll_nil r0
  obtain rfl : args = #[v0] := by cases args; simp_all
  obtain ⟨rfl, rfl⟩ := trodVars_none hV
  obtain ⟨a0, len0, cap0, rfl⟩ := okWide_slice Try.underlying22 (hval 0 22 v0 rfl rfl)
  have k0 := h0
  have lt0 : ∀ x ∈ p0, x.block < W.heap.size := by obtain ⟨m, hm⟩ := k0; exact DataW.trod_lt m _ _ _ hm
  obtain ⟨l0, hK0, hW0⟩ : ∃ l, (Kd.slice 36 k36).K W l [.slice a0 len0 cap0] ∧ (fun l => l.length ≤ maxLen ∧ ∀ a ∈ l, wf36 a) l := by
    obtain ⟨fuel, hf⟩ := h0
    exact (Opens.slice opens36 Try.underlying22 (by kernel_rfl)) H enc W _ _ _ fuel _ _ hf
  obtain ⟨A0, c0, he0, hl0, hr0⟩ := hK0
  obtain ⟨rfl, rfl, rfl⟩ : a0 = A0 ∧ len0 = l0.length ∧ cap0 = c0 := by simpa using he0
  clear hA0 hval0 hsz0
  refine (B.conventiclelaw16_BallotTop.walk Pure.BallotTop _ _ l0 W hr0 hl0 hW0).mono fun e W' ⟨he, bel⟩ => ?_
  subst he
  exact ⟨_, rfl, _, _, _, [], _, [], hW', trodAll_mk1 (shut_bool Try.underlying4 _), (trodAll_cons_mk (Below.trod laidOut (by kernel_rfl) (of_decide_eq_true (by kernel_rfl)) k0 bel lt0) trodAll_mk0), rfl, bel.frame _, fun h => by cases h⟩
theorem over : Rows.ballotTopRow.holds Try.pinned (OpenSpec.ofChange Rows.ballotTopSpec) :=
  OpenClaim.holds_of_wide 3 Try.f3 rfl rfl rfl rfl rfl rfl rfl ⟨rfl, rfl, rfl, rfl, rfl⟩ rfl rfl rfl rfl rfl (by kernel_rfl) Try.func3 (by kernel_rfl)
    (of_decide_eq_true (by kernel_rfl)) (by unfold Func.isWrapper; first | (rw [if_pos (by decide +kernel)]; kernel_rfl) | (rw [if_neg (by decide +kernel)]; exact ⟨rfl, rfl⟩))
    (fun os started H enc _ => lifted os started H enc)
theorem proved : Rows.BallotTopSaid := over
#print axioms proved
end Go.Proofs.Ytnlppniejeemlaa.ballotTop
namespace Go.Proofs.Ytnlppniejeemlaa
/-- The row, under a short name, for the claim. -/
theorem ballotTop_holds : Rows.BallotTopSaid := ballotTop.proved
end Go.Proofs.Ytnlppniejeemlaa
