/- By hand: writers beside writers; the closed run that each law of layer 1 asks for. -/
import Derived.Test.YtaegblhfhgiapaaWriter
import Derived.Test.YtaegblhfhgiapaaB1
namespace Go.Proofs.Ytaegblhfhgiapaa.R
open Go.RowKit Go.Proofs.YtaegblhfhgiapaaW.PrintWords Go.Proofs.YtaegblhfhgiapaaW.PrintLast Go.Proofs.YtaegblhfhgiapaaW.PrintMore Go.Proofs.Ytaegblhfhgiapaa.B

section
variable {w w' : World} {base g : Nat} {A : Option Addr} {c : Nat} {l : List Int}
theorem Wr.lt (h : Wr w base g A c l) : g < w.heap.size := (Array.getElem?_eq_some_iff.1 h.cell).1
theorem Wr.row_lt (h : Wr w base g A c l) (k : Nat) (hk : A.map (·.block) = some k) : base ≤ k ∧ k < w.heap.size := h.own.lt k (by rw [ownBlock_map]; exact hk)
theorem Wr.move (h : Wr w base g A c l) (hm : ∀ k, (k = g ∨ A.map (·.block) = some k) → w'.heap[k]? = w.heap[k]?) : Wr w' base g A c l :=
  ⟨(hm g (.inl rfl)).trans h.cell, own_move h.own (fun k hk => hm k (.inr (by rw [← ownBlock_map]; exact hk))), h.far⟩
theorem Wr.keep (h : Wr w base g A c l) (hb : Below w.heap.size w w') : Wr w' base g A c l := h.move fun k hk => hb.block k (by
  rcases hk with rfl | hk
  · exact h.lt
  · exact (h.row_lt k hk).2)
theorem Wr.new (hb : w.heap[g]? = some (.cells #[.slice none 0 0] 26 (0, 0))) (hg : base ≤ g) : Wr w base g none 0 [] := ⟨hb, World.ownsRow_nil w base 5 1, hg⟩
/-- no row of the one is the other's -/
def Apart (A B : Option Addr) : Prop := ∀ k, A.map (·.block) = some k → B.map (·.block) ≠ some k
theorem Apart.none (B : Option Addr) : Apart none B := fun _ h => by cases h
theorem Apart.symm {A B : Option Addr} (h : Apart A B) : Apart B A := fun k hk hA => h k hA hk
theorem Wr.other {base2 g2 : Nat} {A2 B2 : Option Addr} {c2 : Nat} {l2 : List Int} (h : Wr w base g A c l) (h2 : Wr w base2 g2 A2 c2 l2) (hg : g ≠ g2) (ha : Apart A A2) (s : Stp w w' g2 A2 B2) : Wr w' base g A c l ∧ Apart A B2 := by
  have typed : ∀ (u : World) (b : Nat) (D : Option Addr) (n d : Nat) (xs : List Value), u.ownsRow b 5 1 (.slice D n d) n xs → ∀ k, D.map (·.block) = some k → ∃ cells, u.heap[k]? = some (.cells cells 5 (0, 0)) :=
    fun u b D n d xs ho k hk => own_typed ho k (by rw [ownBlock_map]; exact hk)
  refine ⟨h.move fun k hk => s.block k ?_ ?_ ?_, fun k hk => ?_⟩
  · rcases hk with rfl | hk
    · exact h.lt
    · exact (h.row_lt k hk).2
  · rcases hk with rfl | hk
    · exact hg
    · rintro rfl
      obtain ⟨cells, hc⟩ := typed _ _ _ _ _ _ h.own k hk
      rw [h2.cell] at hc
      injection hc with hc
      injection hc with _ ht
      exact absurd ht (by decide)
  · rcases hk with rfl | hk
    · intro e
      obtain ⟨cells, hc⟩ := typed _ _ _ _ _ _ h2.own k e
      rw [h.cell] at hc
      injection hc with hc
      injection hc with _ ht
      exact absurd ht (by decide)
    · exact ha k hk
  · have hl := (h.row_lt k hk).2
    rcases s.row with e | ⟨b, e, hb⟩
    · rw [e]; exact ha k hk
    · rw [e]; intro h'; injection h' with h'; omega
/-- all that lies below base lives on -/
theorem Stp.below {base : Nat} {w0 : World} (h : Wr w base g A c l) {B : Option Addr} (s : Stp w w' g A B) (hb : Below base w0 w) : Below base w0 w' := hb.trans (h.below s)
end
theorem str_21 : strOfNums ([] ++ le 2 258) = ⟨#[2, 1]⟩ := by kernel_rfl
theorem read_21 : octet_Reader_Number.f 20 ⟨#[2, 1]⟩ 0 2 = some (258, 0, ⟨#[2, 1]⟩, 2) := by kernel_rfl
set_option maxHeartbeats 1000000 in
theorem shown_at (w : World) : Calls Try.prog 10 #[] w fun e w' => e = .returned (.bool true) ∧ Below w.heap.size w w' := by
  go_enter Try.func10, Try.ntmps10
  go_wp2_with (first
    | ((with_reducible refine gate_dst (N := 6) rfl ?_); refine box_event ?hg (N := 6) ?hd (cs := #[.slice none 0 0]) (t := 26) ?hr ?_; (case hd => rfl); (case hg => rfl); (case hr => first | (go_simp; done) | (go_simp; rfl)); intro g hg w1 hb1 hB1; have W1 := Aside0.mk (Wr.new (base := w.heap.size) hb1 (by omega)); have B1 := Aside0.mk hB1; clear hg hb1 hB1)
    | (go_at_call 9; (with_reducible refine (number_at w.heap.size g none 0 [] 258 2 _ (by decide) (by decide) (by decide) W1.out).mono ?_); rintro e w2 ⟨rfl, A, c, hW, hS⟩; have B2 := Aside0.mk (Stp.below W1.out hS B1.out); have W2 := Aside0.mk hW; clear hW hS)
    | (go_at_call 14; (with_reducible refine (octet_New.calls _ _ _ w2 w2 (Below.refl _ _) rfl).mono ?_); rintro e w3 ⟨g2, rfl, hI, hb, _⟩; have I3 := Aside0.mk hI; have B3 := Aside0.mk hb; clear hI hb)
    | (go_at_call 15; (with_reducible refine (octet_Reader_Number.calls 20 g2 _ _ _ _ _ _ _ w2 w3 I3.out B3.out read_21).mono ?_); rintro e w4 ⟨rfl, hI, hb, _⟩; have B4 := Aside0.mk hb; have W4 := Aside0.mk (W2.out.keep hb); have HY := Aside0.mk (str_21 ▸ bytes_at w.heap.size g A c _ w4 W4.out); clear hI hb)
    | (go_at_call 11; (with_reducible refine HY.out.mono ?_); rintro e w5 ⟨rfl, rfl⟩))
  go_ret
  exact ⟨rfl, below_then B2.out B2.out.size B4.out⟩
end Go.Proofs.Ytaegblhfhgiapaa.R
