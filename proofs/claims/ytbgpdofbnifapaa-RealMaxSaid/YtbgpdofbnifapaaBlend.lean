/- By hand: what is blended of two doubles, by the program and by the document. -/
import Derived.Test.YtbgpdofbnifapaaClean
import Derived.Test.YtbgpdofbnifapaaArith
import Derived.Laws.FloatArith
import Derived.Below
namespace Go.Proofs.Ytbgpdofbnifapaa.R
open Go.RowKit Go.Proofs.YtbgpdofbnifapaaW.PrintWords Go.Proofs.YtbgpdofbnifapaaW.PrintLast Go.Proofs.YtbgpdofbnifapaaW.PrintMore
open Flt (nan num rung low sgn)

/-- what is held between nought and a number is a number up to that -/
theorem clean_nat (x T : Nat) (hx : x < 18446744073709551616) (hT : T ≤ 9218868437227405312) : clean x 0 T ≤ T := by
  have rT := Flt.rung_low T hT
  have nT : num T = (T : Int) := by unfold Flt.num; rw [rT.1, rT.2]; rfl
  have nanT : nan T = false := by unfold Flt.nan Flt.inf; rw [rT.1]; simp; exact hT
  have o := ord_cases 0 T
  rw [num_zero, nan_zero, nT, nanT] at o
  have hle : le 0 T = true := by
    unfold le
    rcases o with ⟨e, _⟩ | ⟨_, _, ⟨e, _⟩ | ⟨_, e, _⟩ | ⟨_, _, _, e⟩⟩
    · simp at e
    · simp [e]
    · simp [e]
    · omega
  unfold clean
  by_cases h1 : (nan x || !le 0 T || lt x 0) = true
  · rw [if_pos h1]; omega
  · rw [if_neg h1]
    by_cases h2 : gt x T = true
    · rw [if_pos h2]; exact Nat.le_refl _
    · rw [if_neg h2]
      by_cases h3 : eq x 0 = true
      · rw [if_pos h3]; omega
      · rw [if_neg h3]
        rw [hle] at h1
        simp only [Bool.not_true, Bool.or_false, Bool.or_eq_true, not_or, Bool.not_eq_true] at h1
        have o1 := ord_cases x 0
        have o2 := ord_cases x T
        rw [num_zero, nan_zero, h1.1] at o1
        rw [nT, nanT, h1.1] at o2
        have k1 : 0 < num x := by
          rcases o1 with ⟨e, _⟩ | ⟨_, _, ⟨e, _⟩ | ⟨_, e, _⟩ | ⟨_, _, _, e⟩⟩
          · simp at e
          · rw [e] at h1; cases h1.2
          · exact absurd e h3
          · exact e
        have k2 : num x ≤ (T : Int) := by
          rcases o2 with ⟨e, _⟩ | ⟨_, _, ⟨_, _, _, e⟩ | ⟨_, _, _, e⟩ | ⟨_, _, e, _⟩⟩
          · simp at e
          · omega
          · omega
          · exact absurd e h2
        unfold Flt.num Flt.sgn at k1 k2
        cases hl : low x
        · rw [hl] at k2
          simp only [if_false, Bool.false_eq_true] at k2
          have : x = rung x := by
            unfold Flt.low at hl
            unfold Flt.rung
            have : x / 9223372036854775808 % 2 ≠ 1 := by simpa using hl
            omega
          omega
        · rw [hl] at k1
          simp only [if_true] at k1
          omega
theorem nan_nat (r : Nat) (h : r ≤ 9218868437227405312) : nan r = false := by
  unfold Flt.nan Flt.inf
  rw [(Flt.rung_low r h).1]
  simp
  exact h
theorem nan_word (s : Bool) (r : Nat) (h : r ≤ 9218868437227405312) : nan (Ieee.double.word s r) = false := by
  unfold Flt.nan Flt.inf
  rw [(Flt.word_parts s r h).1]
  simp
  exact h
open Ieee in
/-- by a finite number that is not nought whatever is multiplied is a number -/
theorem mul_some (p x : Nat) (hp : p < 9218868437227405312) (hp0 : 0 < p) (hx : nan x = false) : ∃ u, double.mul p x = some u ∧ nan u = false := by
  have rp := Flt.rung_low p (by unfold Flt.inf; omega)
  by_cases hf : rung x < 9218868437227405312
  · exact ⟨_, Flt.mul_is p x (by rw [rp.1]; exact hp) hf, nan_word _ _ (Nat.min_le_right _ _)⟩
  · have hi : rung x = Flt.inf := by
      unfold Flt.nan Flt.inf at hx
      have : ¬ 9218868437227405312 < rung x := by simpa using hx
      unfold Flt.inf
      omega
    have ex : double.read x = .infinity (low x) := by rw [Flt.read_is, if_neg (by rw [hi]; decide), if_neg (by rw [hi]; decide), if_pos hi]
    obtain ⟨m, e, ep, vp⟩ := Flt.read_fin p (by rw [rp.1]; exact hp)
    have hm : m ≠ 0 := by
      rintro rfl
      have := Flt.val_mono hp0
      rw [rp.1, Nat.zero_mul] at vp
      omega
    refine ⟨double.word (low x ^^ low p) Flt.inf, ?_, nan_word _ _ (Nat.le_refl _)⟩
    unfold Format.mul
    rw [ex, ep]
    show (if m = 0 then none else some (Datum.infinity (low x ^^ low p))).map double.write = _
    rw [if_neg hm]
    rfl
/-- the bits of 1 -/
def one : Nat := 4607182418800017408
open Ieee in
theorem sub_one (p : Nat) (h1 : p < one) : ∃ q, double.sub one p = some q ∧ 0 < q ∧ q ≤ one := by
  refine ⟨_, Flt.sub_is one p (by decide) (by omega), ?_, Flt.sub_le _ _⟩
  have hv := Flt.val_mono h1
  have : Flt.RR (Flt.val 1 * 2 ^ 0) 1 0 ≤ Flt.RR (Flt.val one - Flt.val p) 1 0 := Flt.RR_mono (by decide) (by show 1 * 2 ^ 0 ≤ _; omega)
  rw [Flt.RR_val] at this
  omega
open Ieee in
theorem add_not (u v : Nat) (hu : nan u = false) (hv : nan v = false) : double.add u v = none ∨ ∃ s, double.add u v = some s ∧ nan s = false := by
  have key : ∀ x, nan x = false → double.read x = .infinity (low x) ∨ ∃ m e : Nat, double.read x = .number (low x) m (double.leastPlace + (e : Nat)) := by
    intro x hx
    by_cases hf : rung x < Flt.inf
    · obtain ⟨m, e, ex, _⟩ := Flt.read_fin x hf
      exact .inr ⟨m, e, ex⟩
    · left
      have hi : rung x = Flt.inf := by
        unfold Flt.nan at hx
        have : ¬ Flt.inf < rung x := by simpa using hx
        omega
      rw [Flt.read_is, if_neg (by rw [hi]; decide), if_neg (by rw [hi]; decide), if_pos hi]
  have fin : ∀ (s : Bool) (m : Nat) (b : Int) (t : Nat), b - t = double.leastPlace → nan (double.nearest s m b) = false := by
    intro s m b t ht
    rw [Flt.nearest_is s m t 0 b (by omega)]
    exact nan_word _ _ (Nat.min_le_right _ _)
  unfold Format.add
  rcases key u hu with eu | ⟨m, e, eu⟩ <;> rcases key v hv with ev | ⟨n, d, ev⟩ <;> rw [eu, ev]
  · by_cases hs : low u = low v
    · right
      refine ⟨double.word (low u) Flt.inf, ?_, nan_word _ _ (Nat.le_refl _)⟩
      show (if low u = low v then some (Datum.infinity (low u)) else none).map double.write = _
      rw [if_pos hs]; rfl
    · left
      show (if low u = low v then some (Datum.infinity (low u)) else none).map double.write = _
      rw [if_neg hs]; rfl
  · exact .inr ⟨double.word (low u) Flt.inf, rfl, nan_word _ _ (Nat.le_refl _)⟩
  · exact .inr ⟨double.word (low v) Flt.inf, rfl, nan_word _ _ (Nat.le_refl _)⟩
  · right
    exact ⟨_, rfl, fin _ _ _ (min e d) (by omega)⟩
/-- what is blended -/
def blend (old x part : Nat) : Nat :=
  if nan x then old else if nan old || eq (clean part 0 one) one then x else if eq (clean part 0 one) 0 then old else
  ((Ieee.double.mul (clean part 0 one) x).bind fun u => (Ieee.double.sub one (clean part 0 one)).bind fun q => (Ieee.double.mul q old).bind fun v => Ieee.double.add u v).getD 0
/-- an operation that has no answer gives something that is no number -/
theorem nan_add (t : TypeId) (x y : Nat) (w : World) (h : Ieee.double.add x y = none) : ∃ n, (binOp .add t (.float .f64 x) (.float .f64 y)).run Try.prog w = .ok (.float .f64 n) { w with drawn := w.drawn + 1 } ∧ nan n = true := by
  obtain ⟨k, hk⟩ : ∃ k, k = w.tape w.drawn (.nanBits .f64 x y) := ⟨_, rfl⟩
  refine ⟨(k % 2) * 2 ^ 63 + 0x7ff0000000000000 + 1 + (k / 2) % (2 ^ 52 - 1), ?_, ?_⟩
  · have h' : FloatKind.f64.format.add x y = none := h
    simp [binOp, Op.floatArith, h', choose, Sem.run, Question.forced, Question.cut, hk]
  · unfold Flt.nan Flt.rung Flt.inf
    simp only [decide_eq_true_eq]
    have : k / 2 % (2 ^ 52 - 1) < 2 ^ 52 - 1 := Nat.mod_lt _ (by decide)
    obtain ⟨c, hc⟩ : ∃ c, c = k / 2 % (2 ^ 52 - 1) := ⟨_, rfl⟩
    rw [← hc] at this ⊢
    obtain ⟨b, hb⟩ : ∃ b, b = k % 2 := ⟨_, rfl⟩
    have hb2 : b < 2 := by omega
    rw [← hb]
    rw [show (2 : Nat) ^ 63 = 9223372036854775808 from rfl]
    rw [show (2 : Nat) ^ 52 - 1 = 4503599627370495 from rfl] at this
    clear hb hc hk
    omega
theorem below_drawn (B : Nat) (w : World) (n : Nat) : Below B w { w with drawn := n } := ⟨rfl, rfl, rfl, Nat.le_refl _, fun _ _ => rfl⟩
theorem share_at (p x u : Nat) (w : World) (h : Ieee.double.mul p x = some u) : Calls Try.prog 38 #[.float .f64 p, .float .f64 x] w fun e w' => e = .returned (.float .f64 u) ∧ w = w' := by
  have hop : ∀ t w, (binOp .mul t (.float .f64 p) (.float .f64 x)).run Try.prog w = .ok (.float .f64 u) w := fun t w => run_float_arith w .mul t .f64 p x u h
  have hcv : ∀ w, (convert 22 22 (.float .f64 u)).run Try.prog w = .ok (.float .f64 u) w := fun w => run_convert_float_float w 22 22 .f64 .f64 u u (by rw [Try.underlying22]; rfl) Try.underlying22 (by unfold floatToFloatBits; rw [if_pos rfl])
  clear h
  go_enter Try.func38, Try.ntmps38
  go_wp2_with (first | simp only [hop] | simp only [hcv])
  all_goals (go_ret; exact ⟨rfl, rfl⟩)
end Go.Proofs.Ytbgpdofbnifapaa.R
