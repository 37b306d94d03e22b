/- By hand: the document's Number, Real and Text. -/
import Derived.Test.YtaegblhfhgiapaaBack
namespace Go.Proofs.Ytaegblhfhgiapaa.R
open Go.RowKit Go.Proofs.YtaegblhfhgiapaaW.PrintWords Go.Proofs.YtaegblhfhgiapaaW.PrintLast Go.Proofs.YtaegblhfhgiapaaW.PrintMore Go.Proofs.Ytaegblhfhgiapaa.B

theorem shr_is (n : Int) (j : Nat) (hj : j ≤ 7) : shr .u64 n (wrap64 (8 * (j : Int))) = n / 256 ^ j := by
  have hw : wrap64 (8 * (j : Int)) = ((8 * j : Nat) : Int) := by unfold wrap64; omega
  rw [hw]
  unfold shr
  rw [Int.toNat_natCast]
  have hm : min (8 * j) IntKind.u64.bits = 8 * j := by
    have : IntKind.u64.bits = 64 := rfl
    omega
  rw [hm]
  congr 1
  rw [Int.pow_mul]
  rfl
theorem refl0_run (n : Int) (W : Nat) (hW : W ≤ 8) : ∀ (r j : Nat), j + r = W → conventicleref01_Number.l0 (r + 1) n W (le j n) j = some (strOfNums (le W n), 0)
  | 0, j, h => by
    have hj : j = W := by omega
    subst hj
    unfold conventicleref01_Number.l0
    rw [if_neg (by omega)]
  | r + 1, j, h => by
    unfold conventicleref01_Number.l0
    have hw : wrap64 ((j : Int) + 1) = ((j + 1 : Nat) : Int) := by unfold wrap64; omega
    have hw8 : 0 ≤ wrap64 (8 * (j : Int)) := by unfold wrap64; omega
    rw [if_pos (by omega), if_pos hw8, if_pos (by rw [le_length]; omega), hw, shr_is n j (by omega), ← le_snoc]
    exact refl0_run n W hW r (j + 1) (by omega)
theorem refnum_ok (n : Int) (W : Nat) (hf : fits n W = true) : conventicleref01_Number.f (W + 2) n W = some (strOfNums (le W n), 0) := by
  simp only [fits, Bool.and_eq_true, decide_eq_true_eq, Int.toNat_natCast] at hf
  obtain ⟨⟨h1, h8⟩, h3⟩ := hf
  have go : conventicleref01_Number.j0 ((W + 1) + 1) n W false = some (strOfNums (le W n), 0) := by
    unfold conventicleref01_Number.j0
    dsimp only
    rw [if_neg (by decide)]
    exact refl0_run n W (by omega) W 0 (by omega)
  unfold conventicleref01_Number.f
  rw [if_neg (by omega), if_neg (by omega)]
  by_cases h : (W : Int) < 8
  · have hw8 : 0 ≤ wrap64 (8 * (W : Int)) := by unfold wrap64; omega
    rw [if_pos h, if_pos hw8, shr_is n W (by omega), h3]
    exact go
  · rw [if_neg h]
    exact go
theorem refnum_not (n W : Int) (h0 : 0 ≤ n) (h1 : n < 18446744073709551616) (hf : fits n W = false) : conventicleref01_Number.f 1 n W = some (⟨#[]⟩, 1) := by
  have go : conventicleref01_Number.j0 (0 + 1) n W true = some (⟨#[]⟩, 1) := by
    unfold conventicleref01_Number.j0
    dsimp only
    rw [if_pos rfl]
  unfold conventicleref01_Number.f
  by_cases a : W < 1
  · rw [if_pos a]; exact go
  · rw [if_neg a]
    by_cases b : W > 8
    · rw [if_pos b]; exact go
    · rw [if_neg b]
      have h3 : ¬ n / 256 ^ W.toNat = 0 := by
        intro h3
        simp only [fits, decide_eq_true h3, decide_eq_true (show 1 ≤ W by omega), decide_eq_true (show W ≤ 8 by omega)] at hf
        cases hf
      obtain ⟨V, rfl⟩ := Int.eq_ofNat_of_zero_le (show 0 ≤ W by omega)
      rw [Int.toNat_natCast] at h3
      by_cases c : (V : Int) < 8
      · have hw8 : 0 ≤ wrap64 (8 * (V : Int)) := by unfold wrap64; omega
        have hq : 0 ≤ n / 256 ^ V := Int.ediv_nonneg h0 (Int.le_of_lt (Int.pow_pos (by decide)))
        rw [if_pos c, if_pos hw8, shr_is n V (by omega), decide_eq_true (show n / 256 ^ V > 0 by omega)]
        exact go
      · have e : V = 8 := by omega
        subst e
        exact absurd (le_zero n h1 h0) h3
/-- the document's Number, whatever is asked -/
def refStr (n W : Int) : ByteArray := if fits n W then strOfNums (le W.toNat n) else ⟨#[]⟩
def refErr (n W : Int) : Int := if fits n W then 0 else 1
theorem refnumber_at (n W : Int) (h0 : 0 ≤ n) (h1 : n < 18446744073709551616) (w : World) :
    Calls Try.prog 18 #[.int .u64 n, .int .i64 W] w fun e w' => e = .returned (.tuple #[.string (refStr n W), .int .i64 (refErr n W)]) ∧ Below w.heap.size w w' := by
  unfold refStr refErr
  cases hf : fits n W
  · exact conventicleref01_Number.calls 1 n W _ _ w (refnum_not n W h0 h1 hf)
  · have hW : 1 ≤ W ∧ W ≤ 8 := by
      simp only [fits, Bool.and_eq_true, decide_eq_true_eq] at hf
      exact hf.1
    obtain ⟨V, rfl⟩ := Int.eq_ofNat_of_zero_le (show 0 ≤ W by omega)
    exact conventicleref01_Number.calls (V + 2) n V _ _ w (by rw [Int.toNat_natCast]; exact refnum_ok n V hf)
theorem refbits_at (x : Nat) (w : World) : Calls Try.prog 34 #[.float .f64 x] w fun e w' => e = .returned (.int .u64 (rbits x)) ∧ w = w' := by
  have h := ord_self x
  have HB := bits_run x
  unfold rbits
  cases hx : Flt.nan x
  · rw [hx] at h
    simp only [Bool.false_eq_true, if_false]
    go_enter Try.func34, Try.ntmps34
    go_wp2
    go_ret
    exact ⟨rfl, rfl⟩
  · rw [hx] at h
    simp only [if_true]
    go_enter Try.func34, Try.ntmps34
    go_wp2
    go_ret
    exact ⟨rfl, rfl⟩
theorem fits8 (x : Nat) (hx : x < 18446744073709551616) : fits (rbits x) 8 = true := by
  have h1 : rbits x / 256 ^ 8 = 0 := le_zero _ (rbits_lt x hx) (rbits_pos x)
  have e : (8 : Int).toNat = 8 := rfl
  simp only [fits, e, h1]
  rfl
theorem refreal_at (x : Nat) (hx : x < 18446744073709551616) (w : World) : Calls Try.prog 19 #[.float .f64 x] w fun e w' => e = .returned (.string (strOfNums (le 8 (rbits x)))) ∧ Below w.heap.size w w' := by
  have HB := Aside0.mk (refbits_at x)
  have HN := Aside0.mk (fun w => refnumber_at (rbits x) 8 (rbits_pos x) (rbits_lt x hx) w)
  have e1 : refStr (rbits x) 8 = strOfNums (le 8 (rbits x)) := by unfold refStr; rw [fits8 x hx]; rfl
  rw [e1] at HN
  generalize strOfNums (le 8 (rbits x)) = r at HN ⊢
  generalize refErr (rbits x) 8 = er at HN
  generalize rbits x = b at HB HN
  clear e1
  go_enter Try.func19, Try.ntmps19
  go_wp2_with (first
    | (go_at_call 34; (with_reducible refine (HB.out _).mono ?_); rintro e w1 ⟨rfl, rfl⟩)
    | (go_at_call 18; (with_reducible refine (HN.out _).mono ?_); rintro e w2 ⟨rfl, hb⟩; have B := Aside0.mk hb; clear hb))
  go_ret
  exact ⟨rfl, B.out⟩
theorem reftext_at (s : ByteArray) (hs : (s.size : Int) ≤ 65535) (w : World) : Calls Try.prog 21 #[.string s] w fun e w' => e = .returned (.tuple #[.string (strOfNums (le 2 s.size) ++ s), .int .i64 0]) ∧ Below w.heap.size w w' := by
  have hf : fits (s.size : Int) 2 = true := by
    have e : (2 : Int).toNat = 2 := rfl
    have h1 : (s.size : Int) / 256 ^ 2 = 0 := Int.ediv_eq_zero_of_lt (by omega) (by show (s.size : Int) < 65536; omega)
    simp only [fits, e, h1]
    rfl
  have HN := Aside0.mk (fun w => refnumber_at (s.size : Int) 2 (by omega) (by omega) w)
  have e1 : refStr (s.size : Int) 2 = strOfNums (le 2 s.size) := by unfold refStr; rw [hf]; rfl
  have hss : ¬ 9223372036854775807 < (strOfNums (le 2 (s.size : Int))).size + s.size := by rw [strOfNums_size, le_length]; omega
  rw [e1] at HN
  generalize strOfNums (le 2 (s.size : Int)) = r at HN hss ⊢
  generalize refErr (s.size : Int) 2 = er at HN
  have hs' : ¬ (65535 : Int) < s.size := by omega
  clear e1 hf hs
  go_enter Try.func21, Try.ntmps21
  go_wp2_with (go_at_call 18; (with_reducible refine (HN.out _).mono ?_); rintro e w2 ⟨rfl, hb⟩; have B := Aside0.mk hb; clear hb)
  go_ret2
  exact ⟨rfl, B.out⟩
end Go.Proofs.Ytaegblhfhgiapaa.R
