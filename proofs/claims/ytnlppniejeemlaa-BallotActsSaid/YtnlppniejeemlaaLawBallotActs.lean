-- printed by this session's own copy of the print program (wip/patch), for seat Ytnlppniejeemlaa
import Derived.Test.YtnlppniejeemlaaRows
import Derived.Test.YtnlppniejeemlaaB6
import Derived.Test.YtnlppniejeemlaaPureBallotActs
import Derived.Test.YtnlppniejeemlaaOpen
import Derived.WalkKit
import Derived.ProofKit
import Derived.OpenShut
import Derived.ShutString
import Derived.ChangeOld
import Derived.Below
import Derived.SizedLaws
namespace Go.Proofs.Ytnlppniejeemlaa.ballotActs
open Go.ChangeShapes Go.WideShapes Go.ChangeAt Go.RowKit
open Go.ChangeMaps (open_string shut_string)
open Go.Proofs.YtnlppniejeemlaaW.PrintWords Go.Proofs.Ytnlppniejeemlaa.B Go.Proofs.Ytnlppniejeemlaa.Open
theorem own : ownKnob Try.prog.godebug = none := by kernel_rfl
theorem laidOut : laidOutB Try.prog = true := by kernel_rfl
theorem opens27 : Opens Try.prog 27 k27 wf27 := by
  have hs : Opens Try.prog 27 (Kd.pair (Kd.int .u64) (Kd.int .u64)) (fun x => (fun n => (Lit.int .u64 n).wf = true) x.1 ∧ (fun n => (Lit.int .u64 n).wf = true) x.2) := by
    refine Opens.struct (d := (Kd.pair (Kd.int .u64) (Kd.int .u64))) (WF := (fun x => (fun n => (Lit.int .u64 n).wf = true) x.1 ∧ (fun n => (Lit.int .u64 n).wf = true) x.2)) ?_ Try.underlying27 (by kernel_rfl)
    refine OpensFs.cons (d := (Kd.int .u64)) (d' := (Kd.int .u64)) (WF := (fun n => (Lit.int .u64 n).wf = true)) (WF' := (fun n => (Lit.int .u64 n).wf = true)) (off := 0) (off' := 1) (Opens.int Try.underlying25) rfl (by kernel_rfl) rfl ?_
    exact OpensFs.one (d := (Kd.int .u64)) (WF := (fun n => (Lit.int .u64 n).wf = true)) (off := 1) (Opens.int Try.underlying25) rfl (by kernel_rfl)
  have h := Opens.iso hs (fun x : S27 => (x.f0, x.f1)) (fun y => ⟨y.1, y.2⟩) (fun _ => rfl)
  exact h
theorem opens36 : Opens Try.prog 36 k36 wf36 := by
  have hs : Opens Try.prog 36 (Kd.pair Kd.bool (Kd.pair (Kd.int .u64) k27)) (fun x => (fun _ => True) x.1 ∧ (fun x => (fun n => (Lit.int .u64 n).wf = true) x.1 ∧ wf27 x.2) x.2) := by
    refine Opens.struct (d := (Kd.pair Kd.bool (Kd.pair (Kd.int .u64) k27))) (WF := (fun x => (fun _ => True) x.1 ∧ (fun x => (fun n => (Lit.int .u64 n).wf = true) x.1 ∧ wf27 x.2) x.2)) ?_ Try.underlying36 (by kernel_rfl)
    refine OpensFs.cons (d := Kd.bool) (d' := (Kd.pair (Kd.int .u64) k27)) (WF := (fun _ => True)) (WF' := (fun x => (fun n => (Lit.int .u64 n).wf = true) x.1 ∧ wf27 x.2)) (off := 0) (off' := 1) (Opens.bool Try.underlying4) rfl (by kernel_rfl) rfl ?_
    refine OpensFs.cons (d := (Kd.int .u64)) (d' := k27) (WF := (fun n => (Lit.int .u64 n).wf = true)) (WF' := wf27) (off := 1) (off' := 2) (Opens.int Try.underlying25) rfl (by kernel_rfl) rfl ?_
    exact OpensFs.one (d := k27) (WF := wf27) (off := 2) opens27 rfl (by kernel_rfl)
  have h := Opens.iso hs (fun x : S36 => (x.f0, x.f1, x.f2)) (fun y => ⟨y.1, y.2.1, y.2.2⟩) (fun _ => rfl)
  exact h
theorem opens29 : Opens Try.prog 29 k29 wf29 := by
  have hs : Opens Try.prog 29 (Kd.pair (Kd.int .u64) k27) (fun x => (fun n => (Lit.int .u64 n).wf = true) x.1 ∧ wf27 x.2) := by
    refine Opens.struct (d := (Kd.pair (Kd.int .u64) k27)) (WF := (fun x => (fun n => (Lit.int .u64 n).wf = true) x.1 ∧ wf27 x.2)) ?_ Try.underlying29 (by kernel_rfl)
    refine OpensFs.cons (d := (Kd.int .u64)) (d' := k27) (WF := (fun n => (Lit.int .u64 n).wf = true)) (WF' := wf27) (off := 0) (off' := 1) (Opens.int Try.underlying25) rfl (by kernel_rfl) rfl ?_
    exact OpensFs.one (d := k27) (WF := wf27) (off := 1) opens27 rfl (by kernel_rfl)
  have h := Opens.iso hs (fun x : S29 => (x.f0, x.f1)) (fun y => ⟨y.1, y.2⟩) (fun _ => rfl)
  exact h
set_option maxRecDepth 100000 in
theorem lifted (os : Os) (started : os.Started) (H : Type) (enc : TypeId × Value → H) :
    ReturnsInHanded {} Try.checked os 7 .any (Rows.ballotActsSpec.pre6 enc Try.prog Try.f7 Rows.ballotActsRow.domain false) (Rows.ballotActsSpec.post enc Try.prog Try.f7 false true false false) := by
  refine returnsInHanded_of_change_sized (C := Try.checked) own started (by kernel_rfl) Try.func7
    (ChangeSpec.witness6 (enc := enc) (C := Try.checked) false ⟨#[], #[.slice none 0 0, .slice none 0 0, .int .u64 0, .int .i64 0], []⟩ 8 (by kernel_rfl) (by kernel_rfl) (by kernel_rfl) (by kernel_rfl)) ?_
  intro W base args ds gs before hval0 hW hcnd hsz0 _
  have hval : ∀ (j : Nat) t v, Try.f7.params[j]? = some t → args[j]? = some v → Value.okWide Try.prog W .any base t v := hval0
  have hW' := hW
  obtain ⟨p, q, hA0, hV, rfl, hfz, hnd⟩ := hW
  have hA : DataW.TrodAll enc Try.prog W 0 (fun _ => true) true Try.f7.params.toList args.toList ds p := hA0
  rw [Try.params7] at hA hval
  obtain ⟨v0, vs0, d0, ds0, p0, q0, hargs, rfl, rfl, h0, r0⟩ := trodAll_cons hA
  obtain ⟨v1, vs1, d1, ds1, p1, q1, rfl, rfl, rfl, h1, r1⟩ := trodAll_cons r0
  obtain ⟨v2, vs2, d2, ds2, p2, q2, rfl, rfl, rfl, h2, r2⟩ := trodAll_cons r1
  obtain ⟨v3, vs3, d3, ds3, p3, q3, rfl, rfl, rfl, h3, r3⟩ := trodAll_cons r2
  obtain ⟨rfl, rfl, rfl⟩ := trodAll_nil r3
  obtain rfl : args = #[v0, v1, v2, v3] := by cases args; simp_all
  obtain ⟨rfl, rfl⟩ := trodVars_none hV
  obtain ⟨a0, len0, cap0, rfl⟩ := okWide_slice Try.underlying22 (hval 0 22 v0 rfl rfl)
  have k0 := h0
  have lt0 : ∀ x ∈ p0, x.block < W.heap.size := by obtain ⟨m, hm⟩ := k0; exact DataW.trod_lt m _ _ _ hm
  obtain ⟨l0, hK0, hW0⟩ : ∃ l, (Kd.slice 36 k36).K W l [.slice a0 len0 cap0] ∧ (fun l => l.length ≤ maxLen ∧ ∀ a ∈ l, wf36 a) l := by
    obtain ⟨fuel, hf⟩ := h0
    exact (Opens.slice opens36 Try.underlying22 (by kernel_rfl)) H enc W _ _ _ fuel _ _ hf
  obtain ⟨A0, c0, he0, hl0, hr0⟩ := hK0
  obtain ⟨rfl, rfl, rfl⟩ : a0 = A0 ∧ len0 = l0.length ∧ cap0 = c0 := by simpa using he0
  obtain ⟨a1, len1, cap1, rfl⟩ := okWide_slice Try.underlying41 (hval 1 41 v1 rfl rfl)
  have k1 := h1
  have lt1 : ∀ x ∈ p1, x.block < W.heap.size := by obtain ⟨m, hm⟩ := k1; exact DataW.trod_lt m _ _ _ hm
  obtain ⟨l1, hK1, hW1⟩ : ∃ l, (Kd.slice 29 k29).K W l [.slice a1 len1 cap1] ∧ (fun l => l.length ≤ maxLen ∧ ∀ a ∈ l, wf29 a) l := by
    obtain ⟨fuel, hf⟩ := h1
    exact (Opens.slice opens29 Try.underlying41 (by kernel_rfl)) H enc W _ _ _ fuel _ _ hf
  obtain ⟨A1, c1, he1, hl1, hr1⟩ := hK1
  obtain ⟨rfl, rfl, rfl⟩ : a1 = A1 ∧ len1 = l1.length ∧ cap1 = c1 := by simpa using he1
  obtain ⟨a2, rfl, rfl, rfl, w2⟩ := open_int Try.underlying25 (hval 2 25 v2 rfl rfl) h2
  obtain ⟨a3, rfl, rfl, rfl, w3⟩ := open_int Try.underlying3 (hval 3 3 v3 rfl rfl) h3
  clear hA0 hval0 hsz0
  refine (B.conventiclelaw16_BallotActs.walk Pure.BallotActs _ _ l0 _ _ l1 a2 a3 W hr0 hl0 hr1 hl1 hW0 hW1 w2 w3).mono fun e W' ⟨he, bel⟩ => ?_
  subst he
  exact ⟨_, rfl, _, _, _, [], _, [], hW', trodAll_mk1 (shut_bool Try.underlying4 _), (trodAll_cons_mk (Below.trod laidOut (by kernel_rfl) (of_decide_eq_true (by kernel_rfl)) k0 bel lt0) (trodAll_cons_mk (Below.trod laidOut (by kernel_rfl) (of_decide_eq_true (by kernel_rfl)) k1 bel lt1) (trodAll_cons_mk (shut_int Try.underlying25 w2) (trodAll_cons_mk (shut_int Try.underlying3 w3) trodAll_mk0)))), rfl, bel.frame _, fun h => by cases h⟩
theorem over : Rows.ballotActsRow.holds Try.pinned (OpenSpec.ofChange Rows.ballotActsSpec) :=
  OpenClaim.holds_of_wide 7 Try.f7 rfl rfl rfl rfl rfl rfl rfl ⟨rfl, rfl, rfl, rfl, rfl⟩ rfl rfl rfl rfl rfl (by kernel_rfl) Try.func7 (by kernel_rfl)
    (of_decide_eq_true (by kernel_rfl)) (by unfold Func.isWrapper; first | (rw [if_pos (by decide +kernel)]; kernel_rfl) | (rw [if_neg (by decide +kernel)]; exact ⟨rfl, rfl⟩))
    (fun os started H enc _ => lifted os started H enc)
theorem proved : Rows.BallotActsSaid := over
#print axioms proved
end Go.Proofs.Ytnlppniejeemlaa.ballotActs
namespace Go.Proofs.Ytnlppniejeemlaa
/-- The row, under a short name, for the claim. -/
theorem ballotActs_holds : Rows.BallotActsSaid := ballotActs.proved
end Go.Proofs.Ytnlppniejeemlaa
