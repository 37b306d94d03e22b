/- Doubles: what is rounded to the nearest, as whole numbers; how it stands to what is rounded of more. -/
import Derived.Test.YtbgpdofbnifapaaFlt
namespace Go.Proofs.Ytbgpdofbnifapaa.Flt
open Ieee

/-- n / g to the nearest whole number, between two the even one -/
def RE (n g : Nat) : Nat := n / g + (decide (g < 2 * (n % g)) || (g == 2 * (n % g) && n / g % 2 == 1)).toNat
theorem RE_le (n g : Nat) : RE n g ≤ n / g + 1 := by
  unfold RE
  have := Bool.toNat_le (decide (g < 2 * (n % g)) || (g == 2 * (n % g) && n / g % 2 == 1))
  omega
theorem RE_mono {a b g : Nat} (_ : 0 < g) (h : a ≤ b) : RE a g ≤ RE b g := by
  have hq : a / g ≤ b / g := Nat.div_le_div_right h
  rcases Nat.lt_or_ge (a / g) (b / g) with hl | hl
  · have := RE_le a g
    have : b / g ≤ RE b g := Nat.le_add_right _ _
    omega
  · have e : a / g = b / g := by omega
    have d1 := Nat.div_add_mod a g
    have d2 := Nat.div_add_mod b g
    have hr : a % g ≤ b % g := by rw [e] at d1; omega
    unfold RE
    rw [e]
    apply Nat.add_le_add_left
    by_cases h1 : g < 2 * (b % g)
    · rw [decide_eq_true h1]
      exact Bool.toNat_le _
    · by_cases h2 : g < 2 * (a % g)
      · omega
      · rw [decide_eq_false h1, decide_eq_false h2]
        by_cases h3 : g = 2 * (a % g)
        · have h4 : g = 2 * (b % g) := by omega
          simp only [Bool.false_or]
          rw [show (g == 2 * (a % g)) = true by simpa using h3, show (g == 2 * (b % g)) = true by simpa using h4]
          exact Nat.le_refl _
        · rw [show (g == 2 * (a % g)) = false by simpa using h3]
          exact Nat.zero_le _
theorem RE_scale (n g c : Nat) (hc : 0 < c) : RE (n * c) (g * c) = RE n g := by
  unfold RE
  rw [Nat.mul_div_mul_right _ _ hc, Nat.mul_mod_mul_right]
  have e1 : (g * c < 2 * (n % g * c)) ↔ (g < 2 * (n % g)) := by
    rw [← Nat.mul_assoc]
    exact Nat.mul_lt_mul_right hc
  have e2 : (g * c = 2 * (n % g * c)) ↔ (g = 2 * (n % g)) := by
    rw [← Nat.mul_assoc]
    exact Nat.mul_left_inj (by omega)
  have e3 : (g * c == 2 * (n % g * c)) = (g == 2 * (n % g)) := by
    rw [Bool.eq_iff_iff]
    simpa using e2
  rw [e3]
  congr 3
  exact decide_eq_decide.2 e1
theorem RE_mul (a g : Nat) (hg : 0 < g) : RE (a * g) g = a := by
  unfold RE
  rw [Nat.mul_div_cancel _ hg, Nat.mul_mod_left]
  have h : (g == 0) = false := by simp; omega
  simp [h]
theorem RE_ge {a n g : Nat} (hg : 0 < g) (h : a * g ≤ n) : a ≤ RE n g := by
  have := RE_mono hg h
  rwa [RE_mul a g hg] at this
theorem RE_up {a n g : Nat} (hg : 0 < g) (h : n ≤ a * g) : RE n g ≤ a := by
  have := RE_mono hg h
  rwa [RE_mul a g hg] at this

/-- the place that is kept, above the least one -/
def top (N n K : Nat) : Nat := max (Nat.log2 (N / n) - 52) K
/-- the rung of N / n, in units of which 2 ^ K are the least place -/
def RR (N n K : Nat) : Nat := (top N n K - K) * B + RE N (n * 2 ^ top N n K)
theorem log2_mono {a b : Nat} (h : a ≤ b) : Nat.log2 a ≤ Nat.log2 b := by
  by_cases ha : a = 0
  · subst ha; simp
  · exact (Nat.le_log2 (by omega)).2 (Nat.le_trans (Nat.log2_self_le ha) h)
theorem RR_mono {N M n K : Nat} (hn : 0 < n) (h : N ≤ M) : RR N n K ≤ RR M n K := by
  have hd : N / n ≤ M / n := Nat.div_le_div_right h
  have hl := log2_mono hd
  have ht : top N n K ≤ top M n K := by unfold top; omega
  unfold RR
  rcases Nat.lt_or_ge (top N n K) (top M n K) with hlt | hge
  · obtain ⟨e, he⟩ : ∃ e, e = top N n K := ⟨_, rfl⟩
    obtain ⟨f, hf⟩ : ∃ f, f = top M n K := ⟨_, rfl⟩
    rw [← he, ← hf] at hlt ⊢
    have heK : K ≤ e := by rw [he]; exact Nat.le_max_right _ _
    have hp : ∀ k, 0 < 2 ^ k := fun k => Nat.pow_pos (by decide)
    have hf2 : f = Nat.log2 (M / n) - 52 := by unfold top at hf; omega
    have hM : M / n ≠ 0 := by
      intro h0
      rw [h0] at hf2
      simp at hf2
      omega
    have h1 : 2 ^ (f + 52) ≤ M / n := Nat.le_trans (Nat.pow_le_pow_right (by decide) (by omega)) (Nat.log2_self_le hM)
    have h2 : B * (n * 2 ^ f) ≤ M := by
      have h3 := (Nat.le_div_iff_mul_le hn).1 h1
      have : 2 ^ (f + 52) * n = B * (n * 2 ^ f) := by rw [Nat.pow_add, show (2 : Nat) ^ 52 = B from rfl, Nat.mul_comm (2 ^ f) B, Nat.mul_assoc, Nat.mul_comm (2 ^ f) n]
      omega
    have h4 : B ≤ RE M (n * 2 ^ f) := RE_ge (Nat.mul_pos hn (hp f)) h2
    have h5 : N / n < 2 ^ (e + 53) := by
      have h6 : Nat.log2 (N / n) ≤ e + 52 := by unfold top at he; omega
      exact Nat.lt_of_lt_of_le Nat.lt_log2_self (Nat.pow_le_pow_right (by decide) (by omega))
    have h7 : N ≤ 2 * B * (n * 2 ^ e) := by
      have h8 := (Nat.div_lt_iff_lt_mul hn).1 h5
      have : 2 ^ (e + 53) * n = 2 * B * (n * 2 ^ e) := by rw [Nat.pow_add, show (2 : Nat) ^ 53 = 2 * B from rfl, Nat.mul_comm (2 ^ e) (2 * B), Nat.mul_assoc (2 * B), Nat.mul_comm (2 ^ e) n]
      omega
    have h9 : RE N (n * 2 ^ e) ≤ 2 * B := RE_up (Nat.mul_pos hn (hp e)) h7
    obtain ⟨c, rfl⟩ : ∃ c, e = K + c := ⟨e - K, by omega⟩
    obtain ⟨d, rfl⟩ : ∃ d, f = K + c + 1 + d := ⟨f - K - c - 1, by omega⟩
    rw [show K + c - K = c by omega, show K + c + 1 + d - K = c + 1 + d by omega]
    have : (c + 1 + d) * B = c * B + B + d * B := by rw [Nat.add_mul, Nat.add_mul, Nat.one_mul]
    omega
  · have e : top N n K = top M n K := by omega
    rw [e]
    exact Nat.add_le_add_left (RE_mono (Nat.mul_pos hn (Nat.pow_pos (by decide))) h) _
theorem RR_zero (n K : Nat) : RR 0 n K = 0 := by
  have h : top 0 n K = K := by unfold top; simp
  unfold RR RE
  rw [h]
  simp
theorem RR_scale (N n K c : Nat) (hc : 0 < c) : RR (N * c) (n * c) K = RR N n K := by
  have h : top (N * c) (n * c) K = top N n K := by unfold top; rw [Nat.mul_div_mul_right _ _ hc]
  unfold RR
  rw [h, show n * c * 2 ^ top N n K = n * 2 ^ top N n K * c by rw [Nat.mul_assoc, Nat.mul_comm c, ← Nat.mul_assoc], RE_scale _ _ _ hc]
theorem log2_two_pow_mul (a k : Nat) (ha : a ≠ 0) : Nat.log2 (a * 2 ^ k) = Nat.log2 a + k := by
  have hp : 0 < 2 ^ k := Nat.pow_pos (by decide)
  have h0 : a * 2 ^ k ≠ 0 := Nat.mul_ne_zero ha (by omega)
  refine (Nat.log2_eq_iff h0).2 ⟨?_, ?_⟩
  · rw [Nat.pow_add]; exact Nat.mul_le_mul_right _ (Nat.log2_self_le ha)
  · rw [show Nat.log2 a + k + 1 = (Nat.log2 a + 1) + k by omega, Nat.pow_add]; exact Nat.mul_lt_mul_of_pos_right Nat.lt_log2_self hp
/-- what a double has is rounded to that double -/
theorem RR_val (r K : Nat) : RR (val r * 2 ^ K) 1 K = r := by
  have hp : ∀ k, 0 < 2 ^ k := fun k => Nat.pow_pos (by decide)
  unfold RR
  by_cases h : r < B
  · have hv : val r = r := by unfold val; rw [if_pos h]
    have ht : top (val r * 2 ^ K) 1 K = K := by
      unfold top
      rw [Nat.div_one, hv]
      by_cases h0 : r = 0
      · subst h0; simp
      · rw [log2_two_pow_mul r K h0]
        have : Nat.log2 r < 52 := (Nat.log2_lt h0).2 h
        omega
    rw [ht, hv, Nat.one_mul, RE_mul _ _ (hp K), Nat.sub_self, Nat.zero_mul, Nat.zero_add]
  · have hB : 0 < B := by decide
    have hv : val r = (B + r % B) * 2 ^ (r / B - 1) := by unfold val; rw [if_neg h]
    have hm : r % B < B := Nat.mod_lt _ hB
    have hq : 1 ≤ r / B := (Nat.one_le_div_iff hB).2 (by omega)
    have hd := Nat.div_add_mod r B
    have ha : B + r % B ≠ 0 := by omega
    have hl : Nat.log2 (B + r % B) = 52 := (Nat.log2_eq_iff ha).2 ⟨by unfold B at *; omega, by unfold B at *; omega⟩
    have hv2 : val r * 2 ^ K = (B + r % B) * 2 ^ (r / B - 1 + K) := by rw [hv, Nat.mul_assoc, ← Nat.pow_add]
    have ht : top (val r * 2 ^ K) 1 K = r / B - 1 + K := by
      unfold top
      rw [Nat.div_one, hv2, log2_two_pow_mul _ _ ha, hl]
      omega
    rw [ht, hv2, Nat.one_mul, RE_mul _ _ (hp _), show r / B - 1 + K - K = r / B - 1 by omega]
    have : (r / B - 1) * B = B * (r / B) - B := by rw [Nat.sub_mul, Nat.one_mul, Nat.mul_comm]
    have : B * 1 ≤ B * (r / B) := Nat.mul_le_mul_left _ hq
    omega
/-- the cut of a number, whatever is dropped -/
theorem cut_is (neg : Bool) (n drop : Nat) : Toward.even.cut neg n drop = RE n (2 ^ drop) := by
  unfold Toward.cut
  simp only [Nat.one_shiftLeft]
  rcases Nat.lt_or_ge (n.log2 + 2) drop with h | h
  · rw [Nat.min_eq_right (by omega)]
    have hn : n < 2 ^ (n.log2 + 1) := Nat.lt_log2_self
    have h1 : 2 ^ (n.log2 + 2) = 2 * 2 ^ (n.log2 + 1) := by rw [Nat.pow_succ 2 (n.log2 + 1), Nat.mul_comm]
    have h2 : 2 ^ (n.log2 + 2) ≤ 2 ^ drop := Nat.pow_le_pow_right (by decide) (by omega)
    have q0 : ∀ g, 2 * n < g → RE n g = 0 := by
      intro g hg
      unfold RE
      rw [Nat.div_eq_of_lt (by omega), Nat.mod_eq_of_lt (by omega), decide_eq_false (by omega)]
      have : (g == 2 * n) = false := by simp; omega
      rw [this]; rfl
    have e1 := q0 (2 ^ (n.log2 + 2)) (by omega)
    have e2 := q0 (2 ^ drop) (by omega)
    rw [e2, ← e1]
    rfl
  · rw [Nat.min_eq_left h]
    rfl
theorem nearest_is (neg : Bool) (mag t K : Nat) (place : Int) (h : place - t = double.leastPlace - K) :
    double.nearest neg mag place = double.word neg (min (RR (mag * 2 ^ t) 1 K) inf) := by
  unfold Format.nearest
  by_cases h0 : mag = 0
  · subst h0
    rw [if_pos rfl, Nat.zero_mul, RR_zero]
    rfl
  · rw [if_neg h0]
    dsimp only
    have hp : ∀ k, 0 < 2 ^ k := fun k => Nat.pow_pos (by decide)
    obtain ⟨L, hL⟩ : ∃ L, L = double.leastPlace := ⟨_, rfl⟩
    rw [← hL] at h ⊢
    have hf : (double.fractionBits : Int) = 52 := rfl
    have hb : double.binade = B := rfl
    have hi : double.infRung = inf := rfl
    rw [hf, hb, hi, cut_is]
    have htop : top (mag * 2 ^ t) 1 K = max (Nat.log2 mag + t - 52) K := by unfold top; rw [Nat.div_one, log2_two_pow_mul _ _ h0]
    obtain ⟨e, he⟩ : ∃ e, e = top (mag * 2 ^ t) 1 K := ⟨_, rfl⟩
    obtain ⟨l, hl⟩ : ∃ l : Int, l = max (place + (mag.log2 : Int) - 52) L := ⟨_, rfl⟩
    have hel : l - L = (e : Int) - K := by rw [← he] at htop; omega
    have heK : K ≤ e := by rw [he]; exact Nat.le_max_right _ _
    unfold RR
    rw [← he, ← hl, show (l - L).toNat = e - K by omega, Nat.one_mul]
    congr 3
    rcases Nat.lt_or_ge e t with c | c
    · rw [show (place - l).toNat = t - e by omega, show (l - place).toNat = 0 by omega, Nat.shiftLeft_eq,
        show mag * 2 ^ t = mag * 2 ^ (t - e) * 2 ^ e by rw [Nat.mul_assoc, ← Nat.pow_add, show t - e + e = t by omega], RE_mul _ _ (hp e)]
      have := RE_mul (mag * 2 ^ (t - e)) 1 (by decide)
      rw [Nat.mul_one] at this
      exact this
    · rw [show (place - l).toNat = 0 by omega, show (l - place).toNat = e - t by omega, Nat.shiftLeft_eq, Nat.pow_zero, Nat.mul_one,
        show 2 ^ e = 2 ^ (e - t) * 2 ^ t by rw [← Nat.pow_add, show e - t + t = e by omega], RE_scale _ _ _ (hp t)]
/-- rounding by a quotient that tells just whether anything is left -/
theorem RE_sticky (D n u : Nat) (hn : 0 < n) (hu : 1 ≤ u) : RE (2 * (D / n) + (D % n != 0).toNat) (2 ^ (u + 1)) = RE D (n * 2 ^ u) := by
  obtain ⟨v, rfl⟩ : ∃ v, u = v + 1 := ⟨u - 1, by omega⟩
  obtain ⟨h, hh⟩ : ∃ h, h = 2 ^ v := ⟨_, rfl⟩
  have hpos : 0 < h := by rw [hh]; exact Nat.pow_pos (by decide)
  have e1 : 2 ^ (v + 1) = 2 * h := by rw [Nat.pow_succ, hh, Nat.mul_comm]
  have e2 : 2 ^ (v + 1 + 1) = 2 * (2 * h) := by rw [Nat.pow_succ, e1, Nat.mul_comm]
  rw [e1, e2]
  obtain ⟨a, ha⟩ : ∃ a, a = D / n := ⟨_, rfl⟩
  obtain ⟨p, hp⟩ : ∃ p, p = D % n := ⟨_, rfl⟩
  have hpn : p < n := by rw [hp]; exact Nat.mod_lt _ hn
  rw [← ha, ← hp]
  have q1 : (2 * a + (p != 0).toNat) / (2 * (2 * h)) = a / (2 * h) := by
    rw [← Nat.div_div_eq_div_mul]
    congr 1
    have := Bool.toNat_le (p != 0)
    omega
  have q2 : D / (n * (2 * h)) = a / (2 * h) := by rw [← Nat.div_div_eq_div_mul, ha]
  have r1 : (2 * a + (p != 0).toNat) % (2 * (2 * h)) = 2 * (a % (2 * h)) + (p != 0).toNat := by
    rw [Nat.mod_mul, show (2 * a + (p != 0).toNat) % 2 = (p != 0).toNat by have := Bool.toNat_le (p != 0); omega,
      show (2 * a + (p != 0).toNat) / 2 = a by have := Bool.toNat_le (p != 0); omega, Nat.add_comm]
  have r2 : D % (n * (2 * h)) = n * (a % (2 * h)) + p := by rw [Nat.mod_mul, ← ha, ← hp, Nat.add_comm]
  unfold RE
  rw [q1, q2, r1, r2]
  obtain ⟨y, hy⟩ : ∃ y, y = a % (2 * h) := ⟨_, rfl⟩
  rw [← hy]
  congr 2
  have c1 : (2 * (2 * h) < 2 * (2 * y + (p != 0).toNat)) ↔ (n * (2 * h) < 2 * (n * y + p)) := by
    rcases Nat.lt_trichotomy h y with c | c | c
    · have : n * h + n ≤ n * y := by rw [← Nat.mul_succ]; exact Nat.mul_le_mul_left _ c
      rw [show n * (2 * h) = 2 * (n * h) by rw [Nat.mul_left_comm]]
      constructor <;> intro <;> omega
    · subst c
      rw [show n * (2 * h) = 2 * (n * h) by rw [Nat.mul_left_comm]]
      by_cases p0 : p = 0
      · subst p0; simp
      · have : (p != 0).toNat = 1 := by simp [p0]
        rw [this]
        constructor <;> intro <;> omega
    · have : n * y + n ≤ n * h := by rw [← Nat.mul_succ]; exact Nat.mul_le_mul_left _ c
      have := Bool.toNat_le (p != 0)
      rw [show n * (2 * h) = 2 * (n * h) by rw [Nat.mul_left_comm]]
      constructor <;> intro <;> omega
  have c2 : (2 * (2 * h) = 2 * (2 * y + (p != 0).toNat)) ↔ (n * (2 * h) = 2 * (n * y + p)) := by
    rcases Nat.lt_trichotomy h y with c | c | c
    · have : n * h + n ≤ n * y := by rw [← Nat.mul_succ]; exact Nat.mul_le_mul_left _ c
      rw [show n * (2 * h) = 2 * (n * h) by rw [Nat.mul_left_comm]]
      constructor <;> intro <;> omega
    · subst c
      rw [show n * (2 * h) = 2 * (n * h) by rw [Nat.mul_left_comm]]
      by_cases p0 : p = 0
      · subst p0; simp
      · have : (p != 0).toNat = 1 := by simp [p0]
        rw [this]
        constructor <;> intro <;> omega
    · have : n * y + n ≤ n * h := by rw [← Nat.mul_succ]; exact Nat.mul_le_mul_left _ c
      have := Bool.toNat_le (p != 0)
      rw [show n * (2 * h) = 2 * (n * h) by rw [Nat.mul_left_comm]]
      constructor <;> intro <;> omega
  have c3 : (2 * (2 * h) == 2 * (2 * y + (p != 0).toNat)) = (n * (2 * h) == 2 * (n * y + p)) := by
    rw [Bool.eq_iff_iff]
    simpa using c2
  rw [c3, decide_eq_decide.2 c1]
end Go.Proofs.Ytbgpdofbnifapaa.Flt
