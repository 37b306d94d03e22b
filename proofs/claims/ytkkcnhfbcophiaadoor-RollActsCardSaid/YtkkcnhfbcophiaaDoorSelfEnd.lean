/- RollSelf for all its arguments. -/
import Derived.Test.YtkkcnhfbcophiaaDoorSelfLaw
import Derived.Test.YtkkcnhfbcophiaaDoorDoor
namespace Go.Proofs.YtkkcnhfbcophiaaDoor.B
open Go.RowKit Go.Proofs.YtkkcnhfbcophiaaDoorW.PrintWords Go.Proofs.YtkkcnhfbcophiaaDoorW.PrintLast Go.Proofs.YtkkcnhfbcophiaaDoorW.PrintMore Go.Proofs.YtkkcnhfbcophiaaDoor.Band Go.Proofs.YtkkcnhfbcophiaaDoor.Pure

theorem okU_wf {u : S31} (h : (Lit.int .u64 u.f1).wf = true) : OkU u := by
  obtain ⟨c, hc, h2⟩ := Band.wf_u64 h
  unfold OkU
  omega
theorem rollSelf_row (a0 a1 : Int) (A : Option Addr) (c : Nat) (l : List S31) (w : World) (w0 : (Lit.int .u8 a0).wf = true) (w1 : (Lit.int .u8 a1).wf = true) (hr : Kd.C k31 w A l.length l) (_ : l.length ≤ c) (hl : ∀ u ∈ l, (Lit.int .u64 u.f1).wf = true) (hT : Aside0 (TabT w)) :
    Calls Tryd.prog 3 #[.int .u8 a0, .int .u8 a1, .slice A l.length c] w fun e w' => e = .returned (.bool true) ∧ Below w.heap.size w w' := by
  obtain ⟨k, hk, hk63⟩ := mod64 (Band.wf_u8 w0)
  obtain ⟨o, ho, ho63⟩ := mod64 (Band.wf_u8 w1)
  exact self_walk w A c l a0 a1 k o hk ho (by omega) (by omega) (fun u hu => okU_wf (hl u hu)) hr hT
end Go.Proofs.YtkkcnhfbcophiaaDoor.B
