/- By hand: the greatest of some doubles, by the program and by the document. -/
import Derived.Test.YtbgpdofbnifapaaTellsLaw
namespace Go.Proofs.Ytbgpdofbnifapaa.R
open Go.RowKit Go.Proofs.YtbgpdofbnifapaaW.PrintWords Go.Proofs.YtbgpdofbnifapaaW.PrintLast Go.Proofs.YtbgpdofbnifapaaW.PrintMore

def kf : Kd Nat := Kd.scalar (fun n : Nat => Value.float .f64 n) (fun _ => rfl)
theorem at_F {w : World} {A : Option Addr} {n : Nat} {xs : List Nat} (h : Kd.C kf w A n xs) (k : Nat) (hk : k < n) : ∃ ad, A = some ad ∧ w.cell? (ad.add k) = some (.float .f64 (xs.getD k 0)) := by
  obtain ⟨ad, c, e, _, hK, hc0⟩ := Kd.C_get h 0 (k : Int) (by omega) (by omega)
  have hc : ∀ j u, c[j]? = some u → w.cell? (ad.add ((k : Int).toNat * 1 + j)) = some u := hc0
  have hK' : c = [.float .f64 (xs.getD (k : Int).toNat 0)] := hK
  subst hK'
  have := hc 0 _ rfl
  rw [Int.toNat_natCast, Nat.mul_one, Nat.add_zero] at this
  exact ⟨ad, e, this⟩
/-- M is one of them, as far as it goes, and none is ahead -/
def isMax (l : List Nat) (k M : Nat) : Prop := M < 18446744073709551616 ∧ (∃ j, j < k ∧ key M = key (l.getD j 0)) ∧ ∀ i, i < k → key (l.getD i 0) ≤ key M
theorem cmp_cases' (x y : Nat) : (cmp x y = -1 ∧ key x < key y) ∨ (cmp x y = 0 ∧ key x = key y) ∨ (cmp x y = 1 ∧ key y < key x) := by
  unfold cmp
  rcases Int.lt_trichotomy (key x) (key y) with h | h | h
  · rw [if_pos h]; exact .inl ⟨rfl, h⟩
  · rw [if_neg (by omega), if_neg (by omega)]; exact .inr (.inl ⟨rfl, h⟩)
  · rw [if_neg (by omega), if_pos h]; exact .inr (.inr ⟨rfl, h⟩)
theorem isMax_stay {l : List Nat} {k M : Nat} (h : isMax l k M) (hk : key (l.getD k 0) ≤ key M) : isMax l (k + 1) M := by
  obtain ⟨h1, ⟨j, hj, e⟩, h2⟩ := h
  refine ⟨h1, ⟨j, by omega, e⟩, fun i hi => ?_⟩
  by_cases hik : i = k
  · rw [hik]; exact hk
  · exact h2 i (by omega)
theorem isMax_new {l : List Nat} {k M : Nat} (h : isMax l k M) (hx : l.getD k 0 < 18446744073709551616) (hk : key M < key (l.getD k 0)) : isMax l (k + 1) (l.getD k 0) := by
  obtain ⟨_, _, h2⟩ := h
  refine ⟨hx, ⟨k, by omega, rfl⟩, fun i hi => ?_⟩
  by_cases hik : i = k
  · rw [hik]; exact Int.le_refl _
  · have := h2 i (by omega); omega
set_option maxHeartbeats 2000000 in
theorem maxfunc_at (A : Option Addr) (c : Nat) (l : List Nat) (w : World) (hr : Kd.C kf w A l.length l) (hb : ∀ k, l.getD k 0 < 18446744073709551616) (h0 : 0 < l.length) :
    Calls Try.prog 42 #[.slice A l.length c, .func (.func 13) #[] #[]] w fun e w' => (∃ M, e = .returned (.float .f64 M) ∧ isMax l l.length M) ∧ w = w' := by
  have HR := Aside0.mk hr
  have HB := Aside0.mk hb
  have hlen : (l.length : Int) ≤ 9223372036854775807 := by have := hr.2.1; omega
  obtain ⟨ad, e, hx0⟩ := at_F hr 0 h0
  subst e
  rw [show ad.add 0 = ad from by simp [Addr.add]] at hx0
  have hone : isMax l 1 (l.getD 0 0) := ⟨hb 0, ⟨0, by omega, rfl⟩, fun i hi => by rw [show i = 0 by omega]; exact Int.le_refl _⟩
  have H1 := Aside0.mk hone
  obtain ⟨x0, hx⟩ : ∃ x0, x0 = l.getD 0 0 := ⟨_, rfl⟩
  rw [← hx] at hx0 H1
  have hl1 : ¬ (l.length : Int) < 1 := by omega
  clear hr hb hone hx
  go_enter Try.func42, Try.ntmps42
  go_wp2
  go_loopw [5, 6] (fun m i wr => ∃ (k M : Nat), m = .float .f64 M ∧ i = .int .i64 k ∧ Aside0 (1 ≤ k ∧ k ≤ l.length) ∧ Aside0 (isMax l k M) ∧ w = wr)
    (fun _ i _ => l.length - (intOf i).toNat)
  case atStart => exact ⟨1, x0, rfl, rfl, ⟨by omega⟩, H1, rfl⟩
  case round =>
    obtain ⟨k, M, rfl, rfl, hk, hM, rfl⟩ := hrel
    by_cases hlt : k < l.length
    · obtain ⟨ad', e, hxk⟩ := at_F HR.out k hlt
      obtain rfl : ad = ad' := by simpa using e
      have hxb := HB.out k
      have OA := order_at (l.getD k 0) M hxb hM.out.1
      have hc := Aside0.mk (cmp_cases' (l.getD k 0) M)
      have HS := Aside0.mk (fun h => isMax_stay (k := k) hM.out h)
      have HN := Aside0.mk (fun h => isMax_new (k := k) hM.out hxb h)
      generalize l.getD k 0 = x at hxk OA hc HS HN
      clear hxb
      rcases hc.out with ⟨e1, e2⟩ | ⟨e1, e2⟩ | ⟨e1, e2⟩
      · rw [e1] at OA
        have OA := Aside0.mk OA
        have E2 := Aside0.mk e2
        clear e1 e2 hc
        go_wp2_with (go_at_call 13; (with_reducible refine (OA.out _).mono ?_); rintro e w' ⟨rfl, rfl⟩)
        refine ⟨⟨k + 1, M, rfl, by go_num, ⟨by omega⟩, ⟨HS.out (by have := E2.out; omega)⟩, trivial⟩, by simp [intOf]; omega⟩
      · rw [e1] at OA
        have OA := Aside0.mk OA
        have E2 := Aside0.mk e2
        clear e1 e2 hc
        go_wp2_with (go_at_call 13; (with_reducible refine (OA.out _).mono ?_); rintro e w' ⟨rfl, rfl⟩)
        refine ⟨⟨k + 1, M, rfl, by go_num, ⟨by omega⟩, ⟨HS.out (by have := E2.out; omega)⟩, trivial⟩, by simp [intOf]; omega⟩
      · rw [e1] at OA
        have OA := Aside0.mk OA
        have E2 := Aside0.mk e2
        clear e1 e2 hc
        go_wp2_with (go_at_call 13; (with_reducible refine (OA.out _).mono ?_); rintro e w' ⟨rfl, rfl⟩)
        refine ⟨⟨k + 1, x, rfl, by go_num, ⟨by omega⟩, ⟨HN.out E2.out⟩, trivial⟩, by simp [intOf]; omega⟩
    · obtain rfl : k = l.length := by have := hk.out; omega
      clear hlt
      go_wp2
      go_ret
      exact ⟨⟨M, rfl, hM.out⟩, rfl⟩
end Go.Proofs.Ytbgpdofbnifapaa.R
