/- Doubles: what their sums, products and quotients are, as whole numbers. -/
import Derived.Test.YtbgpdofbnifapaaRound
namespace Go.Proofs.Ytbgpdofbnifapaa.Flt
open Ieee

theorem L_is : double.leastPlace = -1074 := rfl
/-- a finite word, read, with the bounds of its parts -/
theorem read_fin2 (x : Nat) (h : rung x < inf) : ∃ m e : Nat, double.read x = .number (low x) m (double.leastPlace + (e : Nat)) ∧ m * 2 ^ e = val (rung x) ∧ m < 2 * B ∧ e ≤ 2046 ∧ (e = 0 ∨ B ≤ m) := by
  rw [read_is]
  by_cases h0 : rung x < B
  · rw [if_pos h0]
    refine ⟨rung x, 0, by simp, ?_, by omega, by omega, .inl rfl⟩
    unfold val
    rw [if_pos h0]
    simp
  · rw [if_neg h0, if_pos h]
    have hm : rung x % B < B := Nat.mod_lt _ (by decide)
    have hd : rung x / B ≤ 2047 := by
      have : rung x / B < 2047 := (Nat.div_lt_iff_lt_mul (by decide)).2 (by unfold inf B at *; omega)
      omega
    refine ⟨B + rung x % B, rung x / B - 1, rfl, ?_, by omega, by omega, .inr (by omega)⟩
    unfold val
    rw [if_neg h0]
/-- what a word that is no number below nought is -/
theorem rung_low (r : Nat) (h : r ≤ inf) : rung r = r ∧ low r = false := by
  unfold inf at h
  unfold rung low
  constructor
  · omega
  · have : r / 9223372036854775808 = 0 := by omega
    rw [this]; rfl
theorem word_false (r : Nat) : double.word false r = r := rfl
theorem word_is (s : Bool) (r : Nat) : double.word s r = (if s then 9223372036854775808 else 0) + r := by
  cases s
  · simp [Format.word]
  · rfl
theorem word_parts (s : Bool) (r : Nat) (h : r ≤ inf) : rung (double.word s r) = r ∧ low (double.word s r) = s := by
  rw [word_is]
  unfold inf at h
  unfold rung low
  cases s
  · simp only [if_false, Bool.false_eq_true]
    have : (0 + r) / 9223372036854775808 = 0 := by omega
    rw [this]
    exact ⟨by omega, rfl⟩
  · simp only [if_true]
    have : (9223372036854775808 + r) / 9223372036854775808 = 1 := by omega
    rw [this]
    exact ⟨by omega, rfl⟩
theorem mul_is (x y : Nat) (hx : rung x < inf) (hy : rung y < inf) :
    double.mul x y = some (double.word (low x ^^ low y) (min (RR (val (rung x) * val (rung y)) 1 1074) inf)) := by
  obtain ⟨m, e, ex, vx⟩ := read_fin x hx
  obtain ⟨n, d, ey, vy⟩ := read_fin y hy
  have h := nearest_is (low x ^^ low y) (m * n) (e + d) 1074 ((double.leastPlace + (e : Nat)) + (double.leastPlace + (d : Nat))) (by rw [L_is]; omega)
  have hv : m * n * 2 ^ (e + d) = val (rung x) * val (rung y) := by rw [← vx, ← vy, Nat.pow_add, Nat.mul_assoc, Nat.mul_left_comm n, ← Nat.mul_assoc]
  rw [hv] at h
  unfold Format.mul
  rw [ex, ey, ← h]
  rfl
theorem val_zero : val 0 = 0 := rfl
theorem val_inj {r q : Nat} (h : val r = val q) : r = q := by
  rcases Nat.lt_trichotomy r q with e | e | e
  · have := val_mono e; omega
  · exact e
  · have := val_mono e; omega
theorem val_le {r q : Nat} (h : r ≤ q) : val r ≤ val q := by
  rcases Nat.lt_or_ge r q with e | e
  · exact Nat.le_of_lt (val_mono e)
  · rw [show r = q by omega]; exact Nat.le_refl _
/-- one less the other, of what is not below nought -/
theorem sub_is (r q : Nat) (hr : r < inf) (hq : q ≤ r) : double.sub r q = some (RR (val r - val q) 1 0) := by
  have pr := rung_low r (by omega)
  have pq := rung_low q (by omega)
  obtain ⟨m, e, ex, vx⟩ := read_fin r (by rw [pr.1]; exact hr)
  obtain ⟨n, d, ey, vy⟩ := read_fin q (by rw [pq.1]; omega)
  rw [pr.2] at ex
  rw [pq.2] at ey
  rw [pr.1] at vx
  rw [pq.1] at vy
  obtain ⟨b, hb⟩ : ∃ b, b = min e d := ⟨_, rfl⟩
  have hv := val_le hq
  have sx : m * 2 ^ e = m * 2 ^ (e - b) * 2 ^ b := by rw [Nat.mul_assoc, ← Nat.pow_add, show e - b + b = e by omega]
  have sy : n * 2 ^ d = n * 2 ^ (d - b) * 2 ^ b := by rw [Nat.mul_assoc, ← Nat.pow_add, show d - b + b = d by omega]
  have hp : 0 < 2 ^ b := Nat.pow_pos (by decide)
  have hle : n * 2 ^ (d - b) ≤ m * 2 ^ (e - b) := by
    have : n * 2 ^ (d - b) * 2 ^ b ≤ m * 2 ^ (e - b) * 2 ^ b := by omega
    exact Nat.le_of_mul_le_mul_right this hp
  obtain ⟨M, hM⟩ : ∃ M, M = m * 2 ^ (e - b) := ⟨_, rfl⟩
  obtain ⟨N, hN⟩ : ∃ N, N = n * 2 ^ (d - b) := ⟨_, rfl⟩
  have hmin : min (double.leastPlace + (e : Int)) (double.leastPlace + (d : Int)) = double.leastPlace + (b : Nat) := by omega
  have e1 : (double.leastPlace + (e : Int) - (double.leastPlace + (b : Nat))).toNat = e - b := by omega
  have e2 : (double.leastPlace + (d : Int) - (double.leastPlace + (b : Nat))).toNat = d - b := by omega
  have t : signed false m (e - b) + signed true n (d - b) = ((M - N : Nat) : Int) := by
    rw [signed_is, signed_is, ← hM, ← hN]
    simp only [sgn, if_true, if_false, Bool.false_eq_true]
    omega
  have key : ((double.read r).sum (double.read q).opposite) = some (.number false (M - N) (double.leastPlace + (b : Nat))) := by
    rw [ex, ey]
    show some (Datum.number (if signed false m _ + signed true n _ = 0 then (false && true) else decide (signed false m _ + signed true n _ < 0)) (signed false m _ + signed true n _).natAbs _) = _
    rw [hmin, e1, e2, t, Int.natAbs_natCast]
    congr 2
    split
    · rfl
    · exact decide_eq_false (by omega)
  have h := nearest_is false (M - N) b 0 (double.leastPlace + (b : Nat)) (by omega)
  have hv2 : (M - N) * 2 ^ b = val r - val q := by rw [Nat.sub_mul, hM, hN, ← sx, ← sy, vx, vy]
  have hlt : RR (val r - val q) 1 0 ≤ r := by
    have h1 := RR_mono (n := 1) (K := 0) (by decide) (show val r - val q ≤ val r * 2 ^ 0 by rw [Nat.pow_zero]; omega)
    rwa [RR_val r 0] at h1
  rw [hv2, Nat.min_eq_left (by omega)] at h
  unfold Format.sub
  rw [key]
  show some (double.nearest false (M - N) (double.leastPlace + (b : Nat))) = _
  rw [h]
  rfl
theorem sub_le (r q : Nat) : RR (val r - val q) 1 0 ≤ r := by
  have h1 := RR_mono (n := 1) (K := 0) (by decide) (show val r - val q ≤ val r * 2 ^ 0 by rw [Nat.pow_zero]; omega)
  rwa [RR_val r 0] at h1
theorem quotient_is (s t : Bool) (m n u : Nat) (p q : Int) (hn : n ≠ 0) (hu : 54 + Nat.log2 n - Nat.log2 m = u) :
    (Datum.number s m p).quotient 54 (.number t n q) = some (.number (s ^^ t) (2 * (m * 2 ^ u / n) + (m * 2 ^ u % n != 0).toNat) (p - q - u - 1)) := by
  unfold Datum.quotient
  simp only [hn, if_false, Nat.shiftLeft_eq, hu]
theorem fin_div (r q : Nat) (d : Datum) (h : (double.read r).quotient 54 (double.read q) = some d) : double.div r q = some (double.write d) := by
  unfold Format.div
  have e : double.fractionBits + 2 = 54 := rfl
  rw [e, h]
  rfl
theorem write_number (s : Bool) (m : Nat) (p : Int) : double.write (.number s m p) = double.nearest s m p := rfl
/-- one over the other, of what is not below nought -/
theorem div_is (r q T K : Nat) (hT : T = K + 1074) (hK : 2500 ≤ K) (hr : r < inf) (hr0 : 0 < r) (hq : q < inf) (hq0 : 0 < q) : double.div r q = some (min (RR (val r * 2 ^ T) (val q) K) inf) := by
  have pr := rung_low r (by omega)
  have pq := rung_low q (by omega)
  obtain ⟨m, i, ex, vx, bx, cx, _⟩ := read_fin2 r (by rw [pr.1]; exact hr)
  obtain ⟨n, j, ey, vy, by', cy, _⟩ := read_fin2 q (by rw [pq.1]; omega)
  rw [pr.2] at ex
  rw [pq.2] at ey
  rw [pr.1] at vx
  rw [pq.1] at vy
  have hp : ∀ k, 0 < 2 ^ k := fun k => Nat.pow_pos (by decide)
  have hm0 : m ≠ 0 := by
    rintro rfl
    have := val_mono hr0
    rw [val_zero, ← vx, Nat.zero_mul] at this
    omega
  have hn0 : n ≠ 0 := by
    rintro rfl
    have := val_mono hq0
    rw [val_zero, ← vy, Nat.zero_mul] at this
    omega
  have hn : 0 < n := by omega
  have lm : Nat.log2 m ≤ 52 := by
    have : Nat.log2 m < 53 := (Nat.log2_lt hm0).2 (by unfold B at bx; omega)
    omega
  have ln : Nat.log2 n ≤ 52 := by
    have : Nat.log2 n < 53 := (Nat.log2_lt hn0).2 (by unfold B at by'; omega)
    omega
  obtain ⟨u, hu⟩ : ∃ u, u = 54 + Nat.log2 n - Nat.log2 m := ⟨_, rfl⟩
  obtain ⟨D, hD⟩ : ∃ D, D = m * 2 ^ u := ⟨_, rfl⟩
  have key : (double.read r).quotient 54 (double.read q) = some (.number false (2 * (D / n) + (D % n != 0).toNat) ((i : Int) - j - u - 1)) := by
    rw [ex, ey, quotient_is false false m n u _ _ hn0 hu.symm, ← hD]
    congr 2
    omega
  obtain ⟨t, ht⟩ : ∃ t, t = i + T - j - u - 1 := ⟨_, rfl⟩
  have htj : (t : Int) = (i : Int) - j - u - 1 + T := by omega
  have h := nearest_is false (2 * (D / n) + (D % n != 0).toNat) t K ((i : Int) - j - u - 1) (by rw [L_is]; omega)
  have main : RR ((2 * (D / n) + (D % n != 0).toNat) * 2 ^ t) 1 K = RR (val r * 2 ^ T) (val q) K := by
    have e1 : val r * 2 ^ T = D * 2 ^ (1 + t) * 2 ^ j := by
      rw [← vx, hD, Nat.mul_assoc, Nat.mul_assoc, Nat.mul_assoc, ← Nat.pow_add, ← Nat.pow_add, ← Nat.pow_add]
      congr 2
      omega
    rw [e1, ← vy, RR_scale _ _ _ _ (hp j)]
    obtain ⟨a, ha⟩ : ∃ a, a = D / n := ⟨_, rfl⟩
    have hDa : 2 ^ 53 ≤ a := by
      rw [ha]
      refine (Nat.le_div_iff_mul_le hn).2 ?_
      have h1 : n < 2 ^ (Nat.log2 n + 1) := Nat.lt_log2_self
      have h2 : 2 ^ Nat.log2 m ≤ m := Nat.log2_self_le hm0
      have h3 : 2 ^ 53 * n ≤ 2 ^ 53 * 2 ^ (Nat.log2 n + 1) := Nat.mul_le_mul_left _ (by omega)
      have h4 : 2 ^ Nat.log2 m * 2 ^ u ≤ D := by rw [hD]; exact Nat.mul_le_mul_right _ h2
      rw [← Nat.pow_add] at h3 h4
      have h5 : 2 ^ (53 + (Nat.log2 n + 1)) = 2 ^ (Nat.log2 m + u) := by congr 1; omega
      omega
    have ha0 : a ≠ 0 := by omega
    have bs := Bool.toNat_le (D % n != 0)
    have la : 53 ≤ Nat.log2 a := (Nat.le_log2 ha0).2 hDa
    have hls : Nat.log2 (2 * a + (D % n != 0).toNat) = Nat.log2 a + 1 := by
      have h1 := Nat.log2_self_le ha0
      have h2 : a < 2 ^ (Nat.log2 a + 1) := Nat.lt_log2_self
      refine (Nat.log2_eq_iff (by omega)).2 ⟨?_, ?_⟩
      · rw [Nat.pow_succ]; omega
      · rw [Nat.pow_succ]; omega
    have hld : Nat.log2 (D * 2 ^ (1 + t) / n) = Nat.log2 a + 1 + t := by
      have h1 : a * 2 ^ (1 + t) ≤ D * 2 ^ (1 + t) / n := by
        refine (Nat.le_div_iff_mul_le hn).2 ?_
        have : a * n ≤ D := by rw [ha]; exact Nat.div_mul_le_self D n
        calc a * 2 ^ (1 + t) * n = a * n * 2 ^ (1 + t) := by rw [Nat.mul_right_comm]
          _ ≤ D * 2 ^ (1 + t) := Nat.mul_le_mul_right _ this
      have h2 : D * 2 ^ (1 + t) / n < (a + 1) * 2 ^ (1 + t) := by
        refine (Nat.div_lt_iff_lt_mul hn).2 ?_
        have : D < (a + 1) * n := by rw [ha]; have := Nat.div_add_mod D n; have := Nat.mod_lt D hn; rw [Nat.add_mul, Nat.one_mul, Nat.mul_comm]; omega
        calc D * 2 ^ (1 + t) < (a + 1) * n * 2 ^ (1 + t) := Nat.mul_lt_mul_of_pos_right this (hp _)
          _ = (a + 1) * 2 ^ (1 + t) * n := by rw [Nat.mul_right_comm]
      have l1 := Nat.log2_self_le ha0
      have l2 : a < 2 ^ (Nat.log2 a + 1) := Nat.lt_log2_self
      have hpos := hp (1 + t)
      have g1 : 2 ^ (Nat.log2 a + 1 + t) ≤ a * 2 ^ (1 + t) := by
        rw [show Nat.log2 a + 1 + t = Nat.log2 a + (1 + t) by omega, Nat.pow_add 2 (Nat.log2 a)]
        exact Nat.mul_le_mul_right _ l1
      have g2 : (a + 1) * 2 ^ (1 + t) ≤ 2 ^ (Nat.log2 a + 1 + t + 1) := by
        rw [show Nat.log2 a + 1 + t + 1 = Nat.log2 a + 1 + (1 + t) by omega, Nat.pow_add 2 (Nat.log2 a + 1)]
        exact Nat.mul_le_mul_right _ l2
      refine (Nat.log2_eq_iff ?_).2 ⟨?_, ?_⟩
      · have := hp (Nat.log2 a + 1 + t); omega
      · omega
      · omega
    have t1 : top ((2 * a + (D % n != 0).toNat) * 2 ^ t) 1 K = max (Nat.log2 a + 1 + t - 52) K := by
      unfold top
      rw [Nat.div_one, log2_two_pow_mul _ _ (by omega), hls]
    have t2 : top (D * 2 ^ (1 + t)) n K = max (Nat.log2 a + 1 + t - 52) K := by
      unfold top
      rw [hld]
    obtain ⟨e, he⟩ : ∃ e, e = max (Nat.log2 a + 1 + t - 52) K := ⟨_, rfl⟩
    rw [← ha]
    unfold RR
    rw [t1, t2, ← he, Nat.one_mul]
    congr 1
    obtain ⟨v, hv⟩ : ∃ v, e = (v + 1) + t ∧ 1 ≤ v := ⟨e - t - 1, by omega, by omega⟩
    rw [hv.1, Nat.pow_add 2 (v + 1) t, RE_scale _ _ _ (hp t), ha, RE_sticky D n v hn hv.2, show D * 2 ^ (1 + t) = D * 2 ^ (1 + t) from rfl]
    have e3 : n * (2 ^ (v + 1) * 2 ^ t) = n * 2 ^ v * 2 ^ (1 + t) := by rw [← Nat.pow_add, Nat.mul_assoc, ← Nat.pow_add]; congr 2; omega
    rw [e3, RE_scale _ _ _ (hp (1 + t))]
  rw [main] at h
  rw [fin_div r q _ key, write_number, h, word_false]
end Go.Proofs.Ytbgpdofbnifapaa.Flt
