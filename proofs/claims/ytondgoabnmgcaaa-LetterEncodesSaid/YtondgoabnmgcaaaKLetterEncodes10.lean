/- Texts of this claim, one behind the other (joined by pack.py): OWriter. -/
import Derived.Test.YtondgoabnmgcaaaKLetterEncodes9
import Derived.Test.YtondgoabnmgcaaaKLetterEncodes1
section
/- By hand: what else a writer does. -/
namespace Go.Proofs.YtondgoabnmgcaaaO.R
open Go.RowKit Go.Proofs.YtondgoabnmgcaaaW.PrintWords Go.Proofs.YtondgoabnmgcaaaW.PrintLast Go.Proofs.YtondgoabnmgcaaaW.PrintMore

theorem ord (x y : Nat) : FloatKind.f64.format.order x y = if Flt.nan x = true ∨ Flt.nan y = true then none else some (compare (Flt.num x) (Flt.num y)) := Flt.order_is x y
theorem ord_self (x : Nat) : (FloatKind.f64.format.order x x != some .eq) = Flt.nan x := by
  rw [ord]
  by_cases h : Flt.nan x = true
  · rw [if_pos (.inl h), h]; rfl
  · rw [if_neg (by simp [h])]
    have : compare (Flt.num x) (Flt.num x) = .eq := by simp [compare, compareOfLessAndEq]
    rw [this]
    simp at h
    rw [h]
    rfl
theorem bits_run (b : Nat) (w : World) : (callFunc 47 #[.float .f64 b]).run Try.prog w = .ok (.value (.int .u64 (b : Int))) w := by
  rw [run_callFunc_extern Try.func47 (by kernel_rfl) (by kernel_rfl) (by kernel_rfl) (e := Extern.MathFloatBits.float64bits) (by kernel_rfl)]
  rfl
theorem frombits_run (n : Int) (w : World) : (callFunc 77 #[.int .u64 n]).run Try.prog w = .ok (.value (.float .f64 n.toNat)) w := by
  rw [run_callFunc_extern Try.func77 (by kernel_rfl) (by kernel_rfl) (by kernel_rfl) (e := Extern.MathFloatBits.float64frombits) (by kernel_rfl)]
  rfl
theorem isnan_at (x : Nat) (w : World) : Calls Try.prog 78 #[.float .f64 x] w fun e w' => e = .returned (.bool (Flt.nan x)) ∧ w = w' := by
  have h := ord_self x
  go_enter Try.func78, Try.ntmps78
  go_wp2
  go_ret
  exact ⟨rfl, rfl⟩
/-- the bits that a real is written by -/
def rbits (x : Nat) : Int := if Flt.nan x then 9221120237041090561 else (x : Int)
theorem rbits_pos (x : Nat) : 0 ≤ rbits x := by unfold rbits; split <;> omega
theorem bytes_at (base g : Nat) (A : Option Addr) (c : Nat) (l : List Int) (w : World) (h : Wr w base g A c l) :
    Calls Try.prog 54 #[.pointer (some ⟨g, 0, none⟩)] w fun e w' => e = .returned (.string (strOfNums l)) ∧ w = w' := by
  have hc : w.cell? ⟨g, 0, none⟩ = some (.slice A l.length c) := blk_cell h.cell 0
  have hcv : (convert 48 9 (.slice A l.length c)).run Try.prog w = .ok (.string (strOfNums l)) w := own_string Try.underlying48 Try.underlying5 Try.underlying9 h.own
  clear h
  generalize l.length = n at hc hcv
  go_enter Try.func54, Try.ntmps54
  go_wp2
  go_ret
  exact ⟨rfl, rfl⟩
theorem real_at (base g : Nat) (A : Option Addr) (c : Nat) (l : List Int) (x : Nat) (w : World) (hl : l.length ≤ 1000000) (h : Wr w base g A c l) :
    Calls Try.prog 52 #[.pointer (some ⟨g, 0, none⟩), .float .f64 x] w fun e w' => e = .returned (.tuple #[]) ∧ ∃ A' c', Wr w' base g A' c' (l ++ le 8 (rbits x)) ∧ Stp w w' g A A' := by
  have HP := Aside0.mk (put_is base g A c l (rbits x) 8 8 rfl w (rbits_pos x) (by decide) hl h)
  have HF := frombits_run 9221120237041090561
  have HB := bits_run x
  have HB2 := bits_run 9221120237041090561
  have HI := isnan_at x
  clear h hl
  unfold rbits at HP ⊢
  cases hn : Flt.nan x
  · rw [hn] at HP HI
    have HI := Aside0.mk HI
    simp only [Bool.false_eq_true, if_false] at HP ⊢
    clear hn
    go_enter Try.func52, Try.ntmps52
    go_wp2_with (first
      | (go_at_call 78; (with_reducible refine (HI.out _).mono ?_); rintro e w' ⟨rfl, rfl⟩)
      | (go_at_call 82; (with_reducible refine HP.out.mono ?_); rintro e w' ⟨rfl, hp⟩; have HQ := Aside0.mk hp; clear hp))
    go_end0
    exact ⟨rfl, HQ.out⟩
  · rw [hn] at HP HI
    have HI := Aside0.mk HI
    simp only [if_true] at HP ⊢
    clear hn
    go_enter Try.func52, Try.ntmps52
    go_wp2_with (first
      | (go_at_call 78; (with_reducible refine (HI.out _).mono ?_); rintro e w' ⟨rfl, rfl⟩)
      | (go_at_call 82; (with_reducible refine HP.out.mono ?_); rintro e w' ⟨rfl, hp⟩; have HQ := Aside0.mk hp; clear hp))
    go_end0
    exact ⟨rfl, HQ.out⟩
end Go.Proofs.YtondgoabnmgcaaaO.R
end
