/- Texts of this claim, one behind the other (joined by pack.py): Ext B10 OFrames ORealLaw. -/
import Derived.Test.YtondgoabnmgcaaaKLetterMay9
import Derived.Test.YtondgoabnmgcaaaKLetterMay6
section
/- By hand: Signbit. -/
namespace Go.Proofs.Ytondgoabnmgcaaa.B
open Go.RowKit Go.Proofs.YtondgoabnmgcaaaW.PrintWords Go.Proofs.YtondgoabnmgcaaaW.PrintLast Go.Proofs.YtondgoabnmgcaaaW.PrintMore
set_option linter.unusedSimpArgs false
set_option linter.unusedVariables false
def math_Signbit.f (x : Nat) : Option Bool := some (decide (wrap64 (x : Int) < 0))
theorem math_Signbit.calls (x : Nat) (r : Bool) (w : World) (h : math_Signbit.f x = some r) :
    Calls Try.prog 55 #[.float .f64 x] w fun e w' => e = .returned (.bool r) ∧ Drawn0 w w' := by
  obtain rfl := Option.some.inj h
  clear h
  have HF := Go.Proofs.YtondgoabnmgcaaaO.R.bits_run x
  go_enter Try.func55, Try.ntmps55
  go_wp2
  go_ret
  exact ⟨rfl, Drawn0.refl _⟩
end Go.Proofs.Ytondgoabnmgcaaa.B
end
section
namespace Go.Proofs.Ytondgoabnmgcaaa.B
open Go.RowKit Go.Proofs.YtondgoabnmgcaaaW.PrintWords Go.Proofs.YtondgoabnmgcaaaW.PrintLast Go.Proofs.YtondgoabnmgcaaaW.PrintMore
attribute [local go_sem] max2_int min2_int max_two min_two max_three min_three max_four min_four   -- for this text's walks alone
set_option linter.unusedVariables false
set_option linter.unusedSimpArgs false

/-! ### conventiclelaw15_heavy: function 15 -/
mutual
def conventiclelaw15_heavy.j0 : Nat → Bool → Int → Int → Int → Int → Int → List (S70) → Int → Int → Int → Int → Int → Int → Int → List (S53) → List (S77) → Nat → Option (Bool)
  | 0, _, _, _, _, _, _, _, _, _, _, _, _, _, _, _, _, _ => none
  | k + 1, x19, x224000, x224001, x224002, x224003, x224004, x224005, x224006, x224007, x224008, x224009, x224010, x224011, x224012, x224013, x224014, x224015 => if x19 = true then (some true) else (conventiclelaw15_heavy.l0 k 0 x224000 x224001 x224002 x224003 x224004 x224005 x224006 x224007 x224008 x224009 x224010 x224011 x224012 x224013 x224014 x224015)
def conventiclelaw15_heavy.l0 : Nat → Int → Int → Int → Int → Int → Int → List (S70) → Int → Int → Int → Int → Int → Int → Int → List (S53) → List (S77) → Nat → Option (Bool)
  | 0, _, _, _, _, _, _, _, _, _, _, _, _, _, _, _, _, _ => none
  | k + 1, x3, x224000, x224001, x224002, x224003, x224004, x224005, x224006, x224007, x224008, x224009, x224010, x224011, x224012, x224013, x224014, x224015 => if x3 < (x224013.length : Int) then (if 0 ≤ x3 then (if (((rd_T53 x224013 x3).f1.f2).size : Int) > 100 then (some true) else (conventiclelaw15_heavy.l0 k (wrap64 (x3 + 1)) x224000 x224001 x224002 x224003 x224004 x224005 x224006 x224007 x224008 x224009 x224010 x224011 x224012 x224013 x224014 x224015)) else (none)) else (some false)
end
-- NOT PRINTED: function 4 (conventiclelaw15_LetterBack)

-- NOT PRINTED: function 5 (conventiclelaw15_LetterMay)

end Go.Proofs.Ytondgoabnmgcaaa.B
end
section
/- By hand: writers beside writers; the closed run that each law of layer 1 asks for. -/
namespace Go.Proofs.YtondgoabnmgcaaaO.R
open Go.RowKit Go.Proofs.YtondgoabnmgcaaaW.PrintWords Go.Proofs.YtondgoabnmgcaaaW.PrintLast Go.Proofs.YtondgoabnmgcaaaW.PrintMore Go.Proofs.YtondgoabnmgcaaaO.B

section
variable {w w' : World} {base g : Nat} {A : Option Addr} {c : Nat} {l : List Int}
theorem Wr.lt (h : Wr w base g A c l) : g < w.heap.size := (Array.getElem?_eq_some_iff.1 h.cell).1
theorem Wr.row_lt (h : Wr w base g A c l) (k : Nat) (hk : A.map (·.block) = some k) : base ≤ k ∧ k < w.heap.size := h.own.lt k (by rw [ownBlock_map]; exact hk)
theorem Wr.move (h : Wr w base g A c l) (hm : ∀ k, (k = g ∨ A.map (·.block) = some k) → w'.heap[k]? = w.heap[k]?) : Wr w' base g A c l :=
  ⟨(hm g (.inl rfl)).trans h.cell, own_move h.own (fun k hk => hm k (.inr (by rw [← ownBlock_map]; exact hk))), h.far⟩
theorem Wr.keep (h : Wr w base g A c l) (hb : Below w.heap.size w w') : Wr w' base g A c l := h.move fun k hk => hb.block k (by
  rcases hk with rfl | hk
  · exact h.lt
  · exact (h.row_lt k hk).2)
theorem Wr.new (hb : w.heap[g]? = some (.cells #[.slice none 0 0] 98 (0, 0))) (hg : base ≤ g) : Wr w base g none 0 [] := ⟨hb, World.ownsRow_nil w base 5 1, hg⟩
/-- no row of the one is the other's -/
def Apart (A B : Option Addr) : Prop := ∀ k, A.map (·.block) = some k → B.map (·.block) ≠ some k
theorem Apart.none (B : Option Addr) : Apart none B := fun _ h => by cases h
theorem Apart.symm {A B : Option Addr} (h : Apart A B) : Apart B A := fun k hk hA => h k hA hk
theorem Wr.other {base2 g2 : Nat} {A2 B2 : Option Addr} {c2 : Nat} {l2 : List Int} (h : Wr w base g A c l) (h2 : Wr w base2 g2 A2 c2 l2) (hg : g ≠ g2) (ha : Apart A A2) (s : Stp w w' g2 A2 B2) : Wr w' base g A c l ∧ Apart A B2 := by
  have typed : ∀ (u : World) (b : Nat) (D : Option Addr) (n d : Nat) (xs : List Value), u.ownsRow b 5 1 (.slice D n d) n xs → ∀ k, D.map (·.block) = some k → ∃ cells, u.heap[k]? = some (.cells cells 5 (0, 0)) :=
    fun u b D n d xs ho k hk => own_typed ho k (by rw [ownBlock_map]; exact hk)
  refine ⟨h.move fun k hk => s.block k ?_ ?_ ?_, fun k hk => ?_⟩
  · rcases hk with rfl | hk
    · exact h.lt
    · exact (h.row_lt k hk).2
  · rcases hk with rfl | hk
    · exact hg
    · rintro rfl
      obtain ⟨cells, hc⟩ := typed _ _ _ _ _ _ h.own k hk
      rw [h2.cell] at hc
      injection hc with hc
      injection hc with _ ht
      exact absurd ht (by decide)
  · rcases hk with rfl | hk
    · intro e
      obtain ⟨cells, hc⟩ := typed _ _ _ _ _ _ h2.own k e
      rw [h.cell] at hc
      injection hc with hc
      injection hc with _ ht
      exact absurd ht (by decide)
    · exact ha k hk
  · have hl := (h.row_lt k hk).2
    rcases s.row with e | ⟨b, e, hb⟩
    · rw [e]; exact ha k hk
    · rw [e]; intro h'; injection h' with h'; omega
/-- all that lies below base lives on -/
theorem Stp.below {base : Nat} {w0 : World} (h : Wr w base g A c l) {B : Option Addr} (s : Stp w w' g A B) (hb : Below base w0 w) : Below base w0 w' := hb.trans (h.below s)
end
end Go.Proofs.YtondgoabnmgcaaaO.R
end
section
/- OctetReal, by hand: the law's own walk. -/
namespace Go.Proofs.YtondgoabnmgcaaaO.R
open Go.RowKit Go.Proofs.YtondgoabnmgcaaaW.PrintWords Go.Proofs.YtondgoabnmgcaaaW.PrintLast Go.Proofs.YtondgoabnmgcaaaW.PrintMore Go.Proofs.YtondgoabnmgcaaaO.B

end Go.Proofs.YtondgoabnmgcaaaO.R
end
