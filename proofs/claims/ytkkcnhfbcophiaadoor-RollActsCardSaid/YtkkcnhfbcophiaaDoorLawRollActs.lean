/- The row of RollActs: the statement's walk, its arguments opened; the tied card. -/
import Derived.Test.YtkkcnhfbcophiaaDoorRows
import Derived.Test.YtkkcnhfbcophiaaDoorActs2
import Derived.Test.YtkkcnhfbcophiaaDoorOpen
import Derived.WalkKit
import Derived.ProofKit
import Derived.OpenShut
import Derived.ShutString
import Derived.ChangeOld
import Derived.Below
import Derived.SizedLaws
import Derived.LaidMore
import Derived.Stop.Joined
import Derived.SevenTiedAt
import Derived.Test.YtkkcnhfbcophiaaDoorDoor
import Derived.Test.YtkkcnhfbcophiaaDoorTie
import Derived.Test.YtkkcnhfbcophiaaDoorCards
namespace Go.Proofs.YtkkcnhfbcophiaaDoor.rollActs
open Go.ChangeShapes Go.WideShapes Go.ChangeAt Go.RowKit
open Go.ChangeMaps (open_string shut_string)
open Go.Proofs.YtkkcnhfbcophiaaDoorW.PrintWords Go.Proofs.YtkkcnhfbcophiaaDoor.B Go.Proofs.YtkkcnhfbcophiaaDoor.Open
set_option linter.unusedVariables false
theorem own : ownKnob Tryd.prog.godebug = none := by kernel_rfl
theorem laidOut : laidOutB Tryd.prog = true := by kernel_rfl
def wf31 (x : S31) : Prop := (Lit.int .i64 x.f0).wf = true ∧ (Lit.int .u64 x.f1).wf = true ∧ (Lit.int .i64 x.f2).wf = true
theorem opens31 : Opens Tryd.prog 31 k31 wf31 := by
  have hs : Opens Tryd.prog 31 (Kd.pair (Kd.int .i64) (Kd.pair (Kd.int .u64) (Kd.int .i64))) (fun x => (fun n => (Lit.int .i64 n).wf = true) x.1 ∧ (fun x => (fun n => (Lit.int .u64 n).wf = true) x.1 ∧ (fun n => (Lit.int .i64 n).wf = true) x.2) x.2) := by
    refine Opens.struct (d := (Kd.pair (Kd.int .i64) (Kd.pair (Kd.int .u64) (Kd.int .i64)))) (WF := (fun x => (fun n => (Lit.int .i64 n).wf = true) x.1 ∧ (fun x => (fun n => (Lit.int .u64 n).wf = true) x.1 ∧ (fun n => (Lit.int .i64 n).wf = true) x.2) x.2)) ?_ Tryd.underlying31 (by kernel_rfl)
    refine OpensFs.cons (d := (Kd.int .i64)) (d' := (Kd.pair (Kd.int .u64) (Kd.int .i64))) (WF := (fun n => (Lit.int .i64 n).wf = true)) (WF' := (fun x => (fun n => (Lit.int .u64 n).wf = true) x.1 ∧ (fun n => (Lit.int .i64 n).wf = true) x.2)) (off := 0) (off' := 1) (Opens.int Tryd.underlying3) rfl (by kernel_rfl) rfl ?_
    refine OpensFs.cons (d := (Kd.int .u64)) (d' := (Kd.int .i64)) (WF := (fun n => (Lit.int .u64 n).wf = true)) (WF' := (fun n => (Lit.int .i64 n).wf = true)) (off := 1) (off' := 2) (Opens.int Tryd.underlying26) rfl (by kernel_rfl) rfl ?_
    exact OpensFs.one (d := (Kd.int .i64)) (WF := (fun n => (Lit.int .i64 n).wf = true)) (off := 2) (Opens.int Tryd.underlying3) rfl (by kernel_rfl)
  have h := Opens.iso hs (fun x : S31 => (x.f0, x.f1, x.f2)) (fun y => ⟨y.1, y.2.1, y.2.2⟩) (fun _ => rfl)
  exact h
set_option maxRecDepth 100000 in
theorem lifted (os : Os) (started : os.Started) (H : Type) (enc : TypeId × Value → H) :
    ReturnsInHanded {} Tryd.checked os 8 .any (fun w args => (Rows.rollActsSpec.pre enc Tryd.prog Tryd.f8 [] false w args ∧ laidMetH Tryd.prog B.LD w) ∧ sizedMet enc Tryd.prog Tryd.f8 (OpenSpec.ofChange Rows.rollActsSpec) false w args)
      (Rows.rollActsSpec.post enc Tryd.prog Tryd.f8 false true false false) := by
  refine returnsInHanded_of_change_and (C := Tryd.checked) (X := fun w _ => laidMetH Tryd.prog B.LD w) (fun _ _ _ hh h => h.of_heap hh) own started (by kernel_rfl) Tryd.func8
    (ChangeSpec.witness_shaped (enc := enc) (C := Tryd.checked) (os := os) (X := fun w _ => laidMetH Tryd.prog B.LD w) false (World.doorLaid Tryd.prog 400 os) #[.int .i64 0, .slice none 0 0, .slice none 0 0, .int .i64 0] 8 rfl (World.shaped_of_RefB (by kernel_rfl) (by kernel_rfl)) (by kernel_rfl) (by kernel_rfl) (by kernel_rfl) (B.door_met os _)) ?_
  intro W base args ds gs before hval0 hW _ _ hL _
  have hval : ∀ (j : Nat) t v, Tryd.f8.params[j]? = some t → args[j]? = some v → Value.okWide Tryd.prog W .any base t v := hval0
  have hW' := hW
  obtain ⟨p, q, hA0, hV, rfl, hfz, hnd⟩ := hW
  have hA : DataW.TrodAll enc Tryd.prog W 0 (fun _ => true) true Tryd.f8.params.toList args.toList ds p := hA0
  rw [Tryd.params8] at hA hval
  obtain ⟨v0, vs0, d0, ds0, p0, q0, hargs, rfl, rfl, h0, r0⟩ := trodAll_cons hA
  obtain ⟨v1, vs1, d1, ds1, p1, q1, rfl, rfl, rfl, h1, r1⟩ := trodAll_cons r0
  obtain ⟨v2, vs2, d2, ds2, p2, q2, rfl, rfl, rfl, h2, r2⟩ := trodAll_cons r1
  obtain ⟨v3, vs3, d3, ds3, p3, q3, rfl, rfl, rfl, h3, r3⟩ := trodAll_cons r2
  obtain ⟨rfl, rfl, rfl⟩ := trodAll_nil r3
  obtain rfl : args = #[v0, v1, v2, v3] := by cases args; simp_all
  obtain ⟨rfl, rfl⟩ := trodVars_none hV
  obtain ⟨a0, rfl, rfl, rfl, w0⟩ := open_int Tryd.underlying3 (hval 0 3 v0 rfl rfl) h0
  obtain ⟨a1, len1, cap1, rfl⟩ := okWide_slice Tryd.underlying22 (hval 1 22 v1 rfl rfl)
  have k1 := h1
  have lt1 : ∀ x ∈ p1, x.block < W.heap.size := by obtain ⟨m, hm⟩ := k1; exact DataW.trod_lt m _ _ _ hm
  obtain ⟨l1, hK1, hW1⟩ : ∃ l, (Kd.slice 31 k31).K W l [.slice a1 len1 cap1] ∧ (fun l => l.length ≤ maxLen ∧ ∀ a ∈ l, wf31 a) l := by
    obtain ⟨fuel, hf⟩ := h1
    exact (Opens.slice opens31 Tryd.underlying22 (by kernel_rfl)) H enc W _ _ _ fuel _ _ hf
  obtain ⟨A1, c1, he1, hl1, hr1⟩ := hK1
  obtain ⟨rfl, rfl, rfl⟩ : a1 = A1 ∧ len1 = l1.length ∧ cap1 = c1 := by simpa using he1
  obtain ⟨a2, len2, cap2, rfl⟩ := okWide_slice Tryd.underlying47 (hval 2 47 v2 rfl rfl)
  have k2 := h2
  have lt2 : ∀ x ∈ p2, x.block < W.heap.size := by obtain ⟨m, hm⟩ := k2; exact DataW.trod_lt m _ _ _ hm
  obtain ⟨l2, hK2, hW2⟩ : ∃ l, (Kd.slice 22 (Kd.slice 31 k31)).K W l [.slice a2 len2 cap2] ∧ (fun l => l.length ≤ maxLen ∧ ∀ a ∈ l, (fun l => l.length ≤ maxLen ∧ ∀ a ∈ l, wf31 a) a) l := by
    obtain ⟨fuel, hf⟩ := h2
    exact (Opens.slice (Opens.slice opens31 Tryd.underlying22 (by kernel_rfl)) Tryd.underlying47 (by kernel_rfl)) H enc W _ _ _ fuel _ _ hf
  obtain ⟨A2, c2, he2, hl2, hr2⟩ := hK2
  obtain ⟨rfl, rfl, rfl⟩ : a2 = A2 ∧ len2 = l2.length ∧ cap2 = c2 := by simpa using he2
  obtain ⟨a3, rfl, rfl, rfl, w3⟩ := open_int Tryd.underlying3 (hval 3 3 v3 rfl rfl) h3
  clear hA0 hval0
  refine (rollActs_row a0 _ _ l1 _ _ l2 a3 W w0 hr1 hl1 (fun u hu => (hW1.2 u hu).2.1) hr2 hl2 (fun us hs u hu => ((hW2.2 us hs).2 u hu).2.1) w3 (B.tab_of_laid hL)).mono fun e W' ⟨he, bel⟩ => ?_
  subst he
  exact ⟨_, rfl, _, _, _, [], _, [], hW', trodAll_mk1 (shut_bool Tryd.underlying4 _), (trodAll_cons_mk (shut_int Tryd.underlying3 w0) (trodAll_cons_mk (Below.trod laidOut (by kernel_rfl) (of_decide_eq_true (by kernel_rfl)) k1 bel lt1) (trodAll_cons_mk (Below.trod laidOut (by kernel_rfl) (of_decide_eq_true (by kernel_rfl)) k2 bel lt2) (trodAll_cons_mk (shut_int Tryd.underlying3 w3) trodAll_mk0)))), rfl, bel.frame _, fun h => by cases h⟩
theorem over : Rows.rollActsRow.holds Tryd.pinned (OpenSpec.ofChange Rows.rollActsSpec) :=
  OpenClaim.holds_of_wide 8 Tryd.f8 rfl rfl rfl rfl rfl rfl rfl ⟨rfl, rfl, rfl, rfl, rfl⟩ rfl rfl rfl rfl rfl (by kernel_rfl) Tryd.func8 (by kernel_rfl)
    (of_decide_eq_true (by kernel_rfl)) (by unfold Func.isWrapper; first | (rw [if_pos (by decide +kernel)]; kernel_rfl) | (rw [if_neg (by decide +kernel)]; exact ⟨rfl, rfl⟩))
    (fun os started H enc _ => lifted os started H enc)
theorem card : Rows.RollActsCardSaid :=
  Claim7.holds_tied_plain_at .later [] [.data] true (true, "808085275b1175832304a19db2396ab17f6d48ff6d19588e6796fd9261564617") true
    over (fun _ h => by cases h) (by kernel_rfl) (fun _ h => by cases h) rollActs_row_tie rfl ⟨rfl, rfl⟩ (by kernel_rfl) rfl
    (fun f fn hf hfn => by
      obtain rfl : f = 8 := Option.some.inj ((show Tryd.prog.funcNamed "conventicle/conventiclelaw07.RollActs" = some 8 by kernel_rfl).symm.trans hf) |>.symm
      obtain rfl : fn = Tryd.f8 := (Option.some.inj (Tryd.func8.symm.trans hfn)).symm
      exact ⟨by kernel_rfl, fun j t ht => by
        rw [Tryd.params8] at ht
        have hm : t ∈ [3, 22, 47, 3] := by simpa using Array.mem_of_getElem? ht
        have hall : ([3, 22, 47, 3].all fun u => !Tryd.prog.wantsStandIn u) = true := by kernel_rfl
        exact (show Tryd.prog.wantsStandIn t = false by simpa using List.all_eq_true.1 hall t hm)⟩)
    (by kernel_rfl)
#print axioms card
end Go.Proofs.YtkkcnhfbcophiaaDoor.rollActs
namespace Go.Proofs.YtkkcnhfbcophiaaDoor
/-- The row's tied card, under a short name, for the claim. -/
theorem rollActs_holds : Rows.RollActsCardSaid := rollActs.card
end Go.Proofs.YtkkcnhfbcophiaaDoor
