-- printed by this session's own copy of the print program (wip/patch), for seat Ytdpeeanfloahhaa
import Derived.Test.YtdpeeanfloahhaaRows
import Derived.Test.YtdpeeanfloahhaaB3
import Derived.Test.YtdpeeanfloahhaaPureRankOthers
import Derived.Test.YtdpeeanfloahhaaOpen
import Derived.WalkKit
import Derived.ProofKit
import Derived.OpenShut
import Derived.ShutString
import Derived.ChangeOld
import Derived.Below
import Derived.SizedLaws
namespace Go.Proofs.Ytdpeeanfloahhaa.rankOthers
open Go.ChangeShapes Go.WideShapes Go.ChangeAt Go.RowKit
open Go.ChangeMaps (open_string shut_string)
open Go.Proofs.YtdpeeanfloahhaaW.PrintWords Go.Proofs.Ytdpeeanfloahhaa.B Go.Proofs.Ytdpeeanfloahhaa.Open
theorem own : ownKnob Try.prog.godebug = none := by kernel_rfl
theorem laidOut : laidOutB Try.prog = true := by kernel_rfl
theorem opens24 : Opens Try.prog 24 k24 wf24 := by
  have hs : Opens Try.prog 24 (Kd.pair (Kd.int .i64) (Kd.pair (Kd.int .u64) (Kd.int .i64))) (fun x => (fun n => (Lit.int .i64 n).wf = true) x.1 ∧ (fun x => (fun n => (Lit.int .u64 n).wf = true) x.1 ∧ (fun n => (Lit.int .i64 n).wf = true) x.2) x.2) := by
    refine Opens.struct (d := (Kd.pair (Kd.int .i64) (Kd.pair (Kd.int .u64) (Kd.int .i64)))) (WF := (fun x => (fun n => (Lit.int .i64 n).wf = true) x.1 ∧ (fun x => (fun n => (Lit.int .u64 n).wf = true) x.1 ∧ (fun n => (Lit.int .i64 n).wf = true) x.2) x.2)) ?_ Try.underlying24 (by kernel_rfl)
    refine OpensFs.cons (d := (Kd.int .i64)) (d' := (Kd.pair (Kd.int .u64) (Kd.int .i64))) (WF := (fun n => (Lit.int .i64 n).wf = true)) (WF' := (fun x => (fun n => (Lit.int .u64 n).wf = true) x.1 ∧ (fun n => (Lit.int .i64 n).wf = true) x.2)) (off := 0) (off' := 1) (Opens.int Try.underlying3) rfl (by kernel_rfl) rfl ?_
    refine OpensFs.cons (d := (Kd.int .u64)) (d' := (Kd.int .i64)) (WF := (fun n => (Lit.int .u64 n).wf = true)) (WF' := (fun n => (Lit.int .i64 n).wf = true)) (off := 1) (off' := 2) (Opens.int Try.underlying22) rfl (by kernel_rfl) rfl ?_
    exact OpensFs.one (d := (Kd.int .i64)) (WF := (fun n => (Lit.int .i64 n).wf = true)) (off := 2) (Opens.int Try.underlying3) rfl (by kernel_rfl)
  have h := Opens.iso hs (fun x : S24 => (x.f0, x.f1, x.f2)) (fun y => ⟨y.1, y.2.1, y.2.2⟩) (fun _ => rfl)
  exact h
set_option maxRecDepth 100000 in
theorem lifted (os : Os) (started : os.Started) (H : Type) (enc : TypeId × Value → H) :
    ReturnsInHanded {} Try.checked os 6 .any (Rows.rankOthersSpec.pre6 enc Try.prog Try.f6 Rows.rankOthersRow.domain false) (Rows.rankOthersSpec.post enc Try.prog Try.f6 false true false false) := by
  refine returnsInHanded_of_change_sized (C := Try.checked) own started (by kernel_rfl) Try.func6
    (ChangeSpec.witness6 (enc := enc) (C := Try.checked) false ⟨#[], #[.int .u8 0, .int .u64 0, .agg #[.int .i64 0, .int .u64 0, .int .i64 0]], []⟩ 8 (by kernel_rfl) (by kernel_rfl) (by kernel_rfl) (by kernel_rfl)) ?_
  intro W base args ds gs before hval0 hW hcnd hsz0 _
  have hval : ∀ (j : Nat) t v, Try.f6.params[j]? = some t → args[j]? = some v → Value.okWide Try.prog W .any base t v := hval0
  have hW' := hW
  obtain ⟨p, q, hA0, hV, rfl, hfz, hnd⟩ := hW
  have hA : DataW.TrodAll enc Try.prog W 0 (fun _ => true) true Try.f6.params.toList args.toList ds p := hA0
  rw [Try.params6] at hA hval
  obtain ⟨v0, vs0, d0, ds0, p0, q0, hargs, rfl, rfl, h0, r0⟩ := trodAll_cons hA
  obtain ⟨v1, vs1, d1, ds1, p1, q1, rfl, rfl, rfl, h1, r1⟩ := trodAll_cons r0
  obtain ⟨v2, vs2, d2, ds2, p2, q2, rfl, rfl, rfl, h2, r2⟩ := trodAll_cons r1
  obtain ⟨rfl, rfl, rfl⟩ := trodAll_nil r2
  obtain rfl : args = #[v0, v1, v2] := by cases args; simp_all
  obtain ⟨rfl, rfl⟩ := trodVars_none hV
  obtain ⟨a0, rfl, rfl, rfl, w0⟩ := open_int Try.underlying5 (hval 0 5 v0 rfl rfl) h0
  obtain ⟨a1, rfl, rfl, rfl, w1⟩ := open_int Try.underlying22 (hval 1 22 v1 rfl rfl) h1
  obtain ⟨cs2, rfl, hs2⟩ := okWide_struct Try.underlying24 (hval 2 24 v2 rfl rfl)
  have k2 := h2
  have lt2 : ∀ x ∈ p2, x.block < W.heap.size := by obtain ⟨m, hm⟩ := k2; exact DataW.trod_lt m _ _ _ hm
  obtain ⟨x2, hK2, hW2⟩ : ∃ x, k24.K W x cs2.toList ∧ wf24 x := by
    obtain ⟨fuel, hf⟩ := h2
    exact opens24 H enc W _ _ _ fuel _ _ hf
  have hc2 := k24_open hK2
  obtain rfl : cs2 = #[.int .i64 x2.f0, .int .u64 x2.f1, .int .i64 x2.f2] := Array.ext' hc2
  clear hA0 hval0 hsz0
  refine (B.conventiclelaw06_RankOthers.walk Pure.RankOthers a0 a1 x2.f0 x2.f1 x2.f2 W  w0 w1 (hW2.1) (hW2.2.1) (hW2.2.2)).mono fun e W' ⟨he, bel⟩ => ?_
  subst he
  exact ⟨_, rfl, _, _, _, [], _, [], hW', trodAll_mk1 (shut_bool Try.underlying4 _), (trodAll_cons_mk (shut_int Try.underlying5 w0) (trodAll_cons_mk (shut_int Try.underlying22 w1) (trodAll_cons_mk (Below.trod laidOut (by kernel_rfl) (of_decide_eq_true (by kernel_rfl)) k2 bel lt2) trodAll_mk0))), rfl, bel.frame _, fun h => by cases h⟩
theorem over : Rows.rankOthersRow.holds Try.pinned (OpenSpec.ofChange Rows.rankOthersSpec) :=
  OpenClaim.holds_of_wide 6 Try.f6 rfl rfl rfl rfl rfl rfl rfl ⟨rfl, rfl, rfl, rfl, rfl⟩ rfl rfl rfl rfl rfl (by kernel_rfl) Try.func6 (by kernel_rfl)
    (of_decide_eq_true (by kernel_rfl)) (by unfold Func.isWrapper; first | (rw [if_pos (by decide +kernel)]; kernel_rfl) | (rw [if_neg (by decide +kernel)]; exact ⟨rfl, rfl⟩))
    (fun os started H enc _ => lifted os started H enc)
theorem proved : Rows.RankOthersSaid := over
#print axioms proved
end Go.Proofs.Ytdpeeanfloahhaa.rankOthers
namespace Go.Proofs.Ytdpeeanfloahhaa
/-- The row, under a short name, for the claim. -/
theorem rankOthers_holds : Rows.RankOthersSaid := rankOthers.proved
end Go.Proofs.Ytdpeeanfloahhaa
