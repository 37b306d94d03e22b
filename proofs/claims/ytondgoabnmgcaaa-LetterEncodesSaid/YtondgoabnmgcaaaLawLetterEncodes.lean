/- The row of LetterEncodes (printed by encr.py out of the print's row). -/
import Derived.Test.YtondgoabnmgcaaaRows
import Derived.Test.YtondgoabnmgcaaaKLetterEncodes19
import Derived.Test.YtondgoabnmgcaaaKLetterEncodes6
import Derived.WalkKit
import Derived.ProofKit
import Derived.OpenShut
import Derived.ShutString
import Derived.ChangeOld
import Derived.Below
import Derived.SizedLaws
namespace Go.Proofs.Ytondgoabnmgcaaa.letterEncodes
open Go.ChangeShapes Go.WideShapes Go.ChangeAt Go.RowKit
open Go.ChangeMaps (open_string shut_string)
open Go.Proofs.YtondgoabnmgcaaaW.PrintWords Go.Proofs.Ytondgoabnmgcaaa.B Go.Proofs.Ytondgoabnmgcaaa.Open
theorem own : ownKnob Try.prog.godebug = none := by kernel_rfl
theorem laidOut : laidOutB Try.prog = true := by kernel_rfl
def D70_2 : Kd (Int) := (Kd.int .i64)
def P70_2 : (Int) → Prop := (fun n => (Lit.int .i64 n).wf = true)
def D70_1 : Kd ((Int) × Int) := Kd.pair (Kd.int .u64) D70_2
def P70_1 : ((Int) × Int) → Prop := fun x => (fun n => (Lit.int .u64 n).wf = true) x.1 ∧ P70_2 x.2
def D70_0 : Kd ((Int) × (Int) × Int) := Kd.pair (Kd.int .i64) D70_1
def P70_0 : ((Int) × (Int) × Int) → Prop := fun x => (fun n => (Lit.int .i64 n).wf = true) x.1 ∧ P70_1 x.2
set_option maxRecDepth 100000 in
theorem opens70 : Opens Try.prog 70 k70 wf70 := by
  have hs : Opens Try.prog 70 D70_0 P70_0 := by
    refine Opens.struct (d := D70_0) (WF := P70_0) ?_ Try.underlying70 (by kernel_rfl)
    refine @OpensFs.cons Try.prog _ _ 0 1 _ _ (Kd.int .i64) D70_1 (fun n => (Lit.int .i64 n).wf = true) P70_1 ?_ ?_ ?_ ?_ ?_
    · exact (Opens.int Try.underlying3)
    · rfl
    · kernel_rfl
    · rfl
    refine @OpensFs.cons Try.prog _ _ 1 2 _ _ (Kd.int .u64) D70_2 (fun n => (Lit.int .u64 n).wf = true) P70_2 ?_ ?_ ?_ ?_ ?_
    · exact (Opens.int Try.underlying24)
    · rfl
    · kernel_rfl
    · rfl
    refine @OpensFs.one Try.prog _ 2 _ (Kd.int .i64) (fun n => (Lit.int .i64 n).wf = true) ?_ ?_ ?_
    · exact (Opens.int Try.underlying3)
    · rfl
    · kernel_rfl
  have h := Opens.iso hs (fun x : S70 => (x.f0, x.f1, x.f2)) (fun y => ⟨y.1, y.2.1, y.2.2⟩) (fun _ => rfl)
  exact h
def D27_1 : Kd (Int) := (Kd.int .u64)
def P27_1 : (Int) → Prop := (fun n => (Lit.int .u64 n).wf = true)
def D27_0 : Kd ((Int) × Int) := Kd.pair (Kd.int .u64) D27_1
def P27_0 : ((Int) × Int) → Prop := fun x => (fun n => (Lit.int .u64 n).wf = true) x.1 ∧ P27_1 x.2
set_option maxRecDepth 100000 in
theorem opens27 : Opens Try.prog 27 k27 wf27 := by
  have hs : Opens Try.prog 27 D27_0 P27_0 := by
    refine Opens.struct (d := D27_0) (WF := P27_0) ?_ Try.underlying27 (by kernel_rfl)
    refine @OpensFs.cons Try.prog _ _ 0 1 _ _ (Kd.int .u64) D27_1 (fun n => (Lit.int .u64 n).wf = true) P27_1 ?_ ?_ ?_ ?_ ?_
    · exact (Opens.int Try.underlying24)
    · rfl
    · kernel_rfl
    · rfl
    refine @OpensFs.one Try.prog _ 1 _ (Kd.int .u64) (fun n => (Lit.int .u64 n).wf = true) ?_ ?_ ?_
    · exact (Opens.int Try.underlying24)
    · rfl
    · kernel_rfl
  have h := Opens.iso hs (fun x : S27 => (x.f0, x.f1)) (fun y => ⟨y.1, y.2⟩) (fun _ => rfl)
  exact h
def D51_2 : Kd (ByteArray) := Kd.string
def P51_2 : (ByteArray) → Prop := (fun s => s.size ≤ maxLen)
def D51_1 : Kd ((Int) × ByteArray) := Kd.pair (Kd.int .u64) D51_2
def P51_1 : ((Int) × ByteArray) → Prop := fun x => (fun n => (Lit.int .u64 n).wf = true) x.1 ∧ P51_2 x.2
def D51_0 : Kd ((Int) × (Int) × ByteArray) := Kd.pair (Kd.int .i64) D51_1
def P51_0 : ((Int) × (Int) × ByteArray) → Prop := fun x => (fun n => (Lit.int .i64 n).wf = true) x.1 ∧ P51_1 x.2
set_option maxRecDepth 100000 in
theorem opens51 : Opens Try.prog 51 k51 wf51 := by
  have hs : Opens Try.prog 51 D51_0 P51_0 := by
    refine Opens.struct (d := D51_0) (WF := P51_0) ?_ Try.underlying51 (by kernel_rfl)
    refine @OpensFs.cons Try.prog _ _ 0 1 _ _ (Kd.int .i64) D51_1 (fun n => (Lit.int .i64 n).wf = true) P51_1 ?_ ?_ ?_ ?_ ?_
    · exact (Opens.int Try.underlying3)
    · rfl
    · kernel_rfl
    · rfl
    refine @OpensFs.cons Try.prog _ _ 1 2 _ _ (Kd.int .u64) D51_2 (fun n => (Lit.int .u64 n).wf = true) P51_2 ?_ ?_ ?_ ?_ ?_
    · exact (Opens.int Try.underlying24)
    · rfl
    · kernel_rfl
    · rfl
    refine @OpensFs.one Try.prog _ 2 _ Kd.string (fun s => s.size ≤ maxLen) ?_ ?_ ?_
    · exact (Opens.string Try.underlying9)
    · rfl
    · kernel_rfl
  have h := Opens.iso hs (fun x : S51 => (x.f0, x.f1, x.f2)) (fun y => ⟨y.1, y.2.1, y.2.2⟩) (fun _ => rfl)
  exact h
def D53_1 : Kd (S51) := k51
def P53_1 : (S51) → Prop := wf51
def D53_0 : Kd ((Int) × S51) := Kd.pair (Kd.int .u64) D53_1
def P53_0 : ((Int) × S51) → Prop := fun x => (fun n => (Lit.int .u64 n).wf = true) x.1 ∧ P53_1 x.2
set_option maxRecDepth 100000 in
theorem opens53 : Opens Try.prog 53 k53 wf53 := by
  have hs : Opens Try.prog 53 D53_0 P53_0 := by
    refine Opens.struct (d := D53_0) (WF := P53_0) ?_ Try.underlying53 (by kernel_rfl)
    refine @OpensFs.cons Try.prog _ _ 0 1 _ _ (Kd.int .u64) D53_1 (fun n => (Lit.int .u64 n).wf = true) P53_1 ?_ ?_ ?_ ?_ ?_
    · exact (Opens.int Try.underlying24)
    · rfl
    · kernel_rfl
    · rfl
    refine @OpensFs.one Try.prog _ 1 _ k51 wf51 ?_ ?_ ?_
    · exact opens51
    · rfl
    · kernel_rfl
  have h := Opens.iso hs (fun x : S53 => (x.f0, x.f1)) (fun y => ⟨y.1, y.2⟩) (fun _ => rfl)
  exact h
def D77_1 : Kd (Int) := (Kd.int .u64)
def P77_1 : (Int) → Prop := (fun n => (Lit.int .u64 n).wf = true)
def D77_0 : Kd ((Int) × Int) := Kd.pair (Kd.int .u64) D77_1
def P77_0 : ((Int) × Int) → Prop := fun x => (fun n => (Lit.int .u64 n).wf = true) x.1 ∧ P77_1 x.2
set_option maxRecDepth 100000 in
theorem opens77 : Opens Try.prog 77 k77 wf77 := by
  have hs : Opens Try.prog 77 D77_0 P77_0 := by
    refine Opens.struct (d := D77_0) (WF := P77_0) ?_ Try.underlying77 (by kernel_rfl)
    refine @OpensFs.cons Try.prog _ _ 0 1 _ _ (Kd.int .u64) D77_1 (fun n => (Lit.int .u64 n).wf = true) P77_1 ?_ ?_ ?_ ?_ ?_
    · exact (Opens.int Try.underlying24)
    · rfl
    · kernel_rfl
    · rfl
    refine @OpensFs.one Try.prog _ 1 _ (Kd.int .u64) (fun n => (Lit.int .u64 n).wf = true) ?_ ?_ ?_
    · exact (Opens.int Try.underlying24)
    · rfl
    · kernel_rfl
  have h := Opens.iso hs (fun x : S77 => (x.f0, x.f1)) (fun y => ⟨y.1, y.2⟩) (fun _ => rfl)
  exact h
def D32_13 : Kd (Nat) := Kd.f64
def P32_13 : (Nat) → Prop := (fun n => n < 18446744073709551616)
def D32_12 : Kd ((List (S77)) × Nat) := Kd.pair (Kd.slice 77 k77) D32_13
def P32_12 : ((List (S77)) × Nat) → Prop := fun x => (fun l => l.length ≤ maxLen ∧ ∀ a ∈ l, wf77 a) x.1 ∧ P32_13 x.2
def D32_11 : Kd ((List (S53)) × (List (S77)) × Nat) := Kd.pair (Kd.slice 53 k53) D32_12
def P32_11 : ((List (S53)) × (List (S77)) × Nat) → Prop := fun x => (fun l => l.length ≤ maxLen ∧ ∀ a ∈ l, wf53 a) x.1 ∧ P32_12 x.2
def D32_10 : Kd ((Int) × (List (S53)) × (List (S77)) × Nat) := Kd.pair (Kd.int .u64) D32_11
def P32_10 : ((Int) × (List (S53)) × (List (S77)) × Nat) → Prop := fun x => (fun n => (Lit.int .u64 n).wf = true) x.1 ∧ P32_11 x.2
def D32_9 : Kd ((S27) × (Int) × (List (S53)) × (List (S77)) × Nat) := Kd.pair k27 D32_10
def P32_9 : ((S27) × (Int) × (List (S53)) × (List (S77)) × Nat) → Prop := fun x => wf27 x.1 ∧ P32_10 x.2
def D32_8 : Kd ((Int) × (S27) × (Int) × (List (S53)) × (List (S77)) × Nat) := Kd.pair (Kd.int .u64) D32_9
def P32_8 : ((Int) × (S27) × (Int) × (List (S53)) × (List (S77)) × Nat) → Prop := fun x => (fun n => (Lit.int .u64 n).wf = true) x.1 ∧ P32_9 x.2
def D32_7 : Kd ((Int) × (Int) × (S27) × (Int) × (List (S53)) × (List (S77)) × Nat) := Kd.pair (Kd.int .u64) D32_8
def P32_7 : ((Int) × (Int) × (S27) × (Int) × (List (S53)) × (List (S77)) × Nat) → Prop := fun x => (fun n => (Lit.int .u64 n).wf = true) x.1 ∧ P32_8 x.2
def D32_6 : Kd ((S27) × (Int) × (Int) × (S27) × (Int) × (List (S53)) × (List (S77)) × Nat) := Kd.pair k27 D32_7
def P32_6 : ((S27) × (Int) × (Int) × (S27) × (Int) × (List (S53)) × (List (S77)) × Nat) → Prop := fun x => wf27 x.1 ∧ P32_7 x.2
def D32_5 : Kd ((List (S70)) × (S27) × (Int) × (Int) × (S27) × (Int) × (List (S53)) × (List (S77)) × Nat) := Kd.pair (Kd.slice 70 k70) D32_6
def P32_5 : ((List (S70)) × (S27) × (Int) × (Int) × (S27) × (Int) × (List (S53)) × (List (S77)) × Nat) → Prop := fun x => (fun l => l.length ≤ maxLen ∧ ∀ a ∈ l, wf70 a) x.1 ∧ P32_6 x.2
def D32_4 : Kd ((Int) × (List (S70)) × (S27) × (Int) × (Int) × (S27) × (Int) × (List (S53)) × (List (S77)) × Nat) := Kd.pair (Kd.int .i64) D32_5
def P32_4 : ((Int) × (List (S70)) × (S27) × (Int) × (Int) × (S27) × (Int) × (List (S53)) × (List (S77)) × Nat) → Prop := fun x => (fun n => (Lit.int .i64 n).wf = true) x.1 ∧ P32_5 x.2
def D32_3 : Kd ((Int) × (Int) × (List (S70)) × (S27) × (Int) × (Int) × (S27) × (Int) × (List (S53)) × (List (S77)) × Nat) := Kd.pair (Kd.int .u64) D32_4
def P32_3 : ((Int) × (Int) × (List (S70)) × (S27) × (Int) × (Int) × (S27) × (Int) × (List (S53)) × (List (S77)) × Nat) → Prop := fun x => (fun n => (Lit.int .u64 n).wf = true) x.1 ∧ P32_4 x.2
def D32_2 : Kd ((Int) × (Int) × (Int) × (List (S70)) × (S27) × (Int) × (Int) × (S27) × (Int) × (List (S53)) × (List (S77)) × Nat) := Kd.pair (Kd.int .i64) D32_3
def P32_2 : ((Int) × (Int) × (Int) × (List (S70)) × (S27) × (Int) × (Int) × (S27) × (Int) × (List (S53)) × (List (S77)) × Nat) → Prop := fun x => (fun n => (Lit.int .i64 n).wf = true) x.1 ∧ P32_3 x.2
def D32_1 : Kd ((Int) × (Int) × (Int) × (Int) × (List (S70)) × (S27) × (Int) × (Int) × (S27) × (Int) × (List (S53)) × (List (S77)) × Nat) := Kd.pair (Kd.int .i64) D32_2
def P32_1 : ((Int) × (Int) × (Int) × (Int) × (List (S70)) × (S27) × (Int) × (Int) × (S27) × (Int) × (List (S53)) × (List (S77)) × Nat) → Prop := fun x => (fun n => (Lit.int .i64 n).wf = true) x.1 ∧ P32_2 x.2
def D32_0 : Kd ((Int) × (Int) × (Int) × (Int) × (Int) × (List (S70)) × (S27) × (Int) × (Int) × (S27) × (Int) × (List (S53)) × (List (S77)) × Nat) := Kd.pair (Kd.int .i64) D32_1
def P32_0 : ((Int) × (Int) × (Int) × (Int) × (Int) × (List (S70)) × (S27) × (Int) × (Int) × (S27) × (Int) × (List (S53)) × (List (S77)) × Nat) → Prop := fun x => (fun n => (Lit.int .i64 n).wf = true) x.1 ∧ P32_1 x.2
set_option maxRecDepth 100000 in
theorem opens32 : Opens Try.prog 32 k32 wf32 := by
  have hs : Opens Try.prog 32 D32_0 P32_0 := by
    refine Opens.struct (d := D32_0) (WF := P32_0) ?_ Try.underlying32 (by kernel_rfl)
    refine @OpensFs.cons Try.prog _ _ 0 1 _ _ (Kd.int .i64) D32_1 (fun n => (Lit.int .i64 n).wf = true) P32_1 ?_ ?_ ?_ ?_ ?_
    · exact (Opens.int Try.underlying3)
    · rfl
    · kernel_rfl
    · rfl
    refine @OpensFs.cons Try.prog _ _ 1 2 _ _ (Kd.int .i64) D32_2 (fun n => (Lit.int .i64 n).wf = true) P32_2 ?_ ?_ ?_ ?_ ?_
    · exact (Opens.int Try.underlying3)
    · rfl
    · kernel_rfl
    · rfl
    refine @OpensFs.cons Try.prog _ _ 2 3 _ _ (Kd.int .i64) D32_3 (fun n => (Lit.int .i64 n).wf = true) P32_3 ?_ ?_ ?_ ?_ ?_
    · exact (Opens.int Try.underlying3)
    · rfl
    · kernel_rfl
    · rfl
    refine @OpensFs.cons Try.prog _ _ 3 4 _ _ (Kd.int .u64) D32_4 (fun n => (Lit.int .u64 n).wf = true) P32_4 ?_ ?_ ?_ ?_ ?_
    · exact (Opens.int Try.underlying24)
    · rfl
    · kernel_rfl
    · rfl
    refine @OpensFs.cons Try.prog _ _ 4 5 _ _ (Kd.int .i64) D32_5 (fun n => (Lit.int .i64 n).wf = true) P32_5 ?_ ?_ ?_ ?_ ?_
    · exact (Opens.int Try.underlying3)
    · rfl
    · kernel_rfl
    · rfl
    refine @OpensFs.cons Try.prog _ _ 5 6 _ _ (Kd.slice 70 k70) D32_6 (fun l => l.length ≤ maxLen ∧ ∀ a ∈ l, wf70 a) P32_6 ?_ ?_ ?_ ?_ ?_
    · exact (Opens.slice opens70 Try.underlying25 (by kernel_rfl))
    · rfl
    · kernel_rfl
    · rfl
    refine @OpensFs.cons Try.prog _ _ 6 8 _ _ k27 D32_7 wf27 P32_7 ?_ ?_ ?_ ?_ ?_
    · exact opens27
    · rfl
    · kernel_rfl
    · rfl
    refine @OpensFs.cons Try.prog _ _ 8 9 _ _ (Kd.int .u64) D32_8 (fun n => (Lit.int .u64 n).wf = true) P32_8 ?_ ?_ ?_ ?_ ?_
    · exact (Opens.int Try.underlying24)
    · rfl
    · kernel_rfl
    · rfl
    refine @OpensFs.cons Try.prog _ _ 9 10 _ _ (Kd.int .u64) D32_9 (fun n => (Lit.int .u64 n).wf = true) P32_9 ?_ ?_ ?_ ?_ ?_
    · exact (Opens.int Try.underlying24)
    · rfl
    · kernel_rfl
    · rfl
    refine @OpensFs.cons Try.prog _ _ 10 12 _ _ k27 D32_10 wf27 P32_10 ?_ ?_ ?_ ?_ ?_
    · exact opens27
    · rfl
    · kernel_rfl
    · rfl
    refine @OpensFs.cons Try.prog _ _ 12 13 _ _ (Kd.int .u64) D32_11 (fun n => (Lit.int .u64 n).wf = true) P32_11 ?_ ?_ ?_ ?_ ?_
    · exact (Opens.int Try.underlying24)
    · rfl
    · kernel_rfl
    · rfl
    refine @OpensFs.cons Try.prog _ _ 13 14 _ _ (Kd.slice 53 k53) D32_12 (fun l => l.length ≤ maxLen ∧ ∀ a ∈ l, wf53 a) P32_12 ?_ ?_ ?_ ?_ ?_
    · exact (Opens.slice opens53 Try.underlying28 (by kernel_rfl))
    · rfl
    · kernel_rfl
    · rfl
    refine @OpensFs.cons Try.prog _ _ 14 15 _ _ (Kd.slice 77 k77) D32_13 (fun l => l.length ≤ maxLen ∧ ∀ a ∈ l, wf77 a) P32_13 ?_ ?_ ?_ ?_ ?_
    · exact (Opens.slice opens77 Try.underlying29 (by kernel_rfl))
    · rfl
    · kernel_rfl
    · rfl
    refine @OpensFs.one Try.prog _ 15 _ Kd.f64 (fun n => n < 18446744073709551616) ?_ ?_ ?_
    · exact (Opens.float Try.underlying30)
    · rfl
    · kernel_rfl
  have h := Opens.iso hs (fun x : S32 => (x.f0, x.f1, x.f2, x.f3, x.f4, x.f5, x.f6, x.f7, x.f8, x.f9, x.f10, x.f11, x.f12, x.f13)) (fun y => ⟨y.1, y.2.1, y.2.2.1, y.2.2.2.1, y.2.2.2.2.1, y.2.2.2.2.2.1, y.2.2.2.2.2.2.1, y.2.2.2.2.2.2.2.1, y.2.2.2.2.2.2.2.2.1, y.2.2.2.2.2.2.2.2.2.1, y.2.2.2.2.2.2.2.2.2.2.1, y.2.2.2.2.2.2.2.2.2.2.2.1, y.2.2.2.2.2.2.2.2.2.2.2.2.1, y.2.2.2.2.2.2.2.2.2.2.2.2.2⟩) (fun _ => rfl)
  exact h
set_option maxRecDepth 100000 in
theorem lifted (os : Os) (started : os.Started) (H : Type) (enc : TypeId × Value → H) :
    ReturnsInHanded {} Try.checked os 7 .any (Rows.letterEncodesSpec.pre6 enc Try.prog Try.f7 Rows.letterEncodesRow.domain false) (Rows.letterEncodesSpec.post enc Try.prog Try.f7 false true false false) := by
  refine returnsInHanded_of_change_sized (C := Try.checked) own started (by kernel_rfl) Try.func7
    (ChangeSpec.witness6 (enc := enc) (C := Try.checked) false ⟨#[], #[.agg #[.int .i64 0, .int .i64 0, .int .i64 0, .int .u64 0, .int .i64 0, .slice none 0 0, .int .u64 0, .int .u64 0, .int .u64 0, .int .u64 0, .int .u64 0, .int .u64 0, .int .u64 0, .slice none 0 0, .slice none 0 0, .float .f64 0], .agg #[.int .i64 0, .int .i64 0, .int .i64 0, .int .u64 0, .int .i64 0, .slice none 0 0, .int .u64 0, .int .u64 0, .int .u64 0, .int .u64 0, .int .u64 0, .int .u64 0, .int .u64 0, .slice none 0 0, .slice none 0 0, .float .f64 0]], []⟩ 8 (by kernel_rfl) (by kernel_rfl) (by kernel_rfl) (by kernel_rfl)) ?_
  intro W base args ds gs before hval0 hW hcnd hsz0 _
  have hval : ∀ (j : Nat) t v, Try.f7.params[j]? = some t → args[j]? = some v → Value.okWide Try.prog W .any base t v := hval0
  have hW' := hW
  obtain ⟨p, q, hA0, hV, rfl, hfz, hnd⟩ := hW
  have hA : DataW.TrodAll enc Try.prog W 0 (fun _ => true) true Try.f7.params.toList args.toList ds p := hA0
  rw [Try.params7] at hA hval
  obtain ⟨v0, vs0, d0, ds0, p0, q0, hargs, rfl, rfl, h0, r0⟩ := trodAll_cons hA
  obtain ⟨v1, vs1, d1, ds1, p1, q1, rfl, rfl, rfl, h1, r1⟩ := trodAll_cons r0
  obtain ⟨rfl, rfl, rfl⟩ := trodAll_nil r1
  obtain rfl : args = #[v0, v1] := by cases args; simp_all
  obtain ⟨rfl, rfl⟩ := trodVars_none hV
  obtain ⟨cs0, rfl, hs0⟩ := okWide_struct Try.underlying32 (hval 0 32 v0 rfl rfl)
  have k0 := h0
  have lt0 : ∀ x ∈ p0, x.block < W.heap.size := by obtain ⟨m, hm⟩ := k0; exact DataW.trod_lt m _ _ _ hm
  obtain ⟨x0, hK0, hW0⟩ : ∃ x, k32.K W x cs0.toList ∧ wf32 x := by
    obtain ⟨fuel, hf⟩ := h0
    exact opens32 H enc W _ _ _ fuel _ _ hf
  obtain ⟨A0_5, c0_5, A0_13, c0_13, A0_14, c0_14, hc0, hl0_5, hr0_5, hl0_13, hr0_13, hl0_14, hr0_14⟩ := k32_open hK0
  obtain rfl : cs0 = #[.int .i64 x0.f0, .int .i64 x0.f1, .int .i64 x0.f2, .int .u64 x0.f3, .int .i64 x0.f4, .slice A0_5 x0.f5.length c0_5, .int .u64 x0.f6.f0, .int .u64 x0.f6.f1, .int .u64 x0.f7, .int .u64 x0.f8, .int .u64 x0.f9.f0, .int .u64 x0.f9.f1, .int .u64 x0.f10, .slice A0_13 x0.f11.length c0_13, .slice A0_14 x0.f12.length c0_14, .float .f64 x0.f13] := Array.ext' hc0
  obtain ⟨cs1, rfl, hs1⟩ := okWide_struct Try.underlying32 (hval 1 32 v1 rfl rfl)
  have k1 := h1
  have lt1 : ∀ x ∈ p1, x.block < W.heap.size := by obtain ⟨m, hm⟩ := k1; exact DataW.trod_lt m _ _ _ hm
  obtain ⟨x1, hK1, hW1⟩ : ∃ x, k32.K W x cs1.toList ∧ wf32 x := by
    obtain ⟨fuel, hf⟩ := h1
    exact opens32 H enc W _ _ _ fuel _ _ hf
  obtain ⟨A1_5, c1_5, A1_13, c1_13, A1_14, c1_14, hc1, hl1_5, hr1_5, hl1_13, hr1_13, hl1_14, hr1_14⟩ := k32_open hK1
  obtain rfl : cs1 = #[.int .i64 x1.f0, .int .i64 x1.f1, .int .i64 x1.f2, .int .u64 x1.f3, .int .i64 x1.f4, .slice A1_5 x1.f5.length c1_5, .int .u64 x1.f6.f0, .int .u64 x1.f6.f1, .int .u64 x1.f7, .int .u64 x1.f8, .int .u64 x1.f9.f0, .int .u64 x1.f9.f1, .int .u64 x1.f10, .slice A1_13 x1.f11.length c1_13, .slice A1_14 x1.f12.length c1_14, .float .f64 x1.f13] := Array.ext' hc1
  clear hA0 hval0 hsz0
  refine (R.enc_row x0 _ _ _ _ _ _ x1 _ _ _ _ _ _ W hr0_5 hl0_5 hr0_13 hl0_13 hr0_14 hl0_14 hr1_5 hl1_5 hr1_13 hl1_13 hr1_14 hl1_14 hW0 hW1).mono fun e W' ⟨he, bel⟩ => ?_
  subst he
  exact ⟨_, rfl, _, _, _, [], _, [], hW', trodAll_mk1 (shut_bool Try.underlying4 _), (trodAll_cons_mk (Below.trod laidOut (by kernel_rfl) (of_decide_eq_true (by kernel_rfl)) k0 bel lt0) (trodAll_cons_mk (Below.trod laidOut (by kernel_rfl) (of_decide_eq_true (by kernel_rfl)) k1 bel lt1) trodAll_mk0)), rfl, bel.frame _, fun h => by cases h⟩
theorem over : Rows.letterEncodesRow.holds Try.pinned (OpenSpec.ofChange Rows.letterEncodesSpec) :=
  OpenClaim.holds_of_wide 7 Try.f7 rfl rfl rfl rfl rfl rfl rfl ⟨rfl, rfl, rfl, rfl, rfl⟩ rfl rfl rfl rfl rfl (by kernel_rfl) Try.func7 (by kernel_rfl)
    (of_decide_eq_true (by kernel_rfl)) (by unfold Func.isWrapper; first | (rw [if_pos (by decide +kernel)]; kernel_rfl) | (rw [if_neg (by decide +kernel)]; exact ⟨rfl, rfl⟩))
    (fun os started H enc _ => lifted os started H enc)
theorem proved : Rows.LetterEncodesSaid := over
#print axioms proved
end Go.Proofs.Ytondgoabnmgcaaa.letterEncodes
namespace Go.Proofs.Ytondgoabnmgcaaa
/-- The row, under a short name, for the claim. -/
theorem letterEncodes_holds : Rows.LetterEncodesSaid := letterEncodes.proved
end Go.Proofs.Ytondgoabnmgcaaa
