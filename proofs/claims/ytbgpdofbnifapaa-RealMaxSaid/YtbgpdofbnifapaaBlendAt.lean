/- By hand: the contracts of Blend, by the program and by the document. -/
import Derived.Test.YtbgpdofbnifapaaBlendWalks
namespace Go.Proofs.Ytbgpdofbnifapaa.R
open Go.RowKit Go.Proofs.YtbgpdofbnifapaaW.PrintWords Go.Proofs.YtbgpdofbnifapaaW.PrintLast Go.Proofs.YtbgpdofbnifapaaW.PrintMore
open Flt (nan num rung low sgn)

theorem conv_same (x : Nat) (w : World) : (convert 22 22 (.float .f64 x)).run Try.prog w = .ok (.float .f64 x) w :=
  run_convert_float_float w 22 22 .f64 .f64 x x (by rw [Try.underlying22]; rfl) Try.underlying22 (by unfold floatToFloatBits; rw [if_pos rfl])
theorem blend_nan (old x part : Nat) (h : nan x = true) : blend old x part = old := by unfold blend; rw [if_pos h]
theorem blend_old (old x part : Nat) (h : nan x = false) (h2 : (nan old || eq (clean part 0 one) one) = true) : blend old x part = x := by
  unfold blend; rw [if_neg (by rw [h]; decide), if_pos h2]
theorem blend_zero (old x part : Nat) (h : nan x = false) (h1 : nan old = false) (h2 : eq (clean part 0 one) one = false) (h3 : eq (clean part 0 one) 0 = true) : blend old x part = old := by
  unfold blend; rw [if_neg (by rw [h]; decide), if_neg (by rw [h1, h2]; decide), if_pos h3]
/-- what is blended of two numbers, neither at one end: the parts -/
theorem blend_parts (old x part : Nat) (hp : part < 18446744073709551616) (h : nan x = false) (h1 : nan old = false) (h2 : eq (clean part 0 one) one = false) (h3 : eq (clean part 0 one) 0 = false) :
    ∃ u q v, Ieee.double.mul (clean part 0 one) x = some u ∧ Ieee.double.sub one (clean part 0 one) = some q ∧ Ieee.double.mul q old = some v ∧ nan q = false
      ∧ ((Ieee.double.add u v = none ∧ blend old x part = 0) ∨ ∃ s, Ieee.double.add u v = some s ∧ nan s = false ∧ blend old x part = s) := by
  have hpn : clean part 0 one ≤ one := clean_nat part one hp (by decide)
  have hb : blend old x part = ((Ieee.double.mul (clean part 0 one) x).bind fun u => (Ieee.double.sub one (clean part 0 one)).bind fun q => (Ieee.double.mul q old).bind fun v => Ieee.double.add u v).getD 0 := by
    unfold blend; rw [if_neg (by rw [h]; decide), if_neg (by rw [h1, h2]; decide), if_neg (by rw [h3]; decide)]
  obtain ⟨p, ep⟩ : ∃ p, p = clean part 0 one := ⟨_, rfl⟩
  rw [← ep] at hpn hb h2 h3 ⊢
  have o0 := ord_cases p 0
  rw [num_zero, nan_zero, nan_nat p (Nat.le_trans hpn (by decide))] at o0
  have hn : num p = (p : Int) := by unfold Flt.num; rw [(Flt.rung_low p (Nat.le_trans hpn (by decide))).1, (Flt.rung_low p (Nat.le_trans hpn (by decide))).2]; rfl
  rw [hn] at o0
  have hp0 : 0 < p := by
    rcases Nat.eq_zero_or_pos p with e | e
    · rcases o0 with ⟨e1, _⟩ | ⟨_, _, ⟨_, _, _, e1⟩ | ⟨_, e1, _⟩ | ⟨_, _, _, e1⟩⟩
      · simp at e1
      · omega
      · rw [e1] at h3; cases h3
      · omega
    · exact e
  have hp1 : p < one := by
    rcases Nat.lt_or_ge p one with e | e
    · exact e
    · have : p = one := by omega
      rw [this] at h2
      exact absurd h2 (by decide)
  obtain ⟨u, eu, nu⟩ := mul_some p x (by unfold one at hp1; omega) hp0 h
  obtain ⟨q, eq', hq0, hq1⟩ := sub_one p hp1
  obtain ⟨v, ev, nv⟩ := mul_some q old (by unfold one at hq1; omega) hq0 h1
  refine ⟨u, q, v, eu, eq', ev, nan_nat q (by unfold one at hq1; omega), ?_⟩
  rw [eu] at hb
  have hb2 : blend old x part = (Ieee.double.add u v).getD 0 := by
    rw [hb, Option.bind_some, eq', Option.bind_some, ev, Option.bind_some]
  rcases add_not u v nu nv with es | ⟨s, es, ns⟩
  · exact .inl ⟨es, by rw [hb2, es]; rfl⟩
  · exact .inr ⟨s, es, ns, by rw [hb2, es]; rfl⟩
theorem blend_at (old x part : Nat) (hp : part < 18446744073709551616) (w : World) :
    Calls Try.prog 23 #[.float .f64 old, .float .f64 x, .float .f64 part] w fun e w' => e = .returned (.float .f64 (blend old x part)) ∧ Below w.heap.size w w' := by
  have HC : Aside0 (∀ w, Calls Try.prog 18 #[.float .f64 part, .float .f64 0, .float .f64 4607182418800017408] w fun e w' => e = .returned (.float .f64 (clean part 0 one)) ∧ w = w') := ⟨fun w => clean_at part 0 one w⟩
  have N : ∀ y b, nan y = b → Aside0 (∀ w, Calls Try.prog 36 #[.float .f64 y] w fun e w' => e = .returned (.bool b) ∧ w = w') := fun y b h => ⟨fun w => h ▸ isnan_at y w⟩
  have same : ∀ {r : Nat} {e : Ending} {w' : World}, blend old x part = r → (e = .returned (.float .f64 r) ∧ w' = w) → (e = .returned (.float .f64 (blend old x part)) ∧ Below w.heap.size w w') := by
    rintro r e w' hr ⟨rfl, rfl⟩
    exact ⟨by rw [hr], Below.refl _ _⟩
  cases nx : nan x
  · cases no : nan old
    · cases p1 : eq (clean part 0 one) one
      · cases p0 : eq (clean part 0 one) 0
        · obtain ⟨u, q, v, eu, eq', ev, _, h⟩ := blend_parts old x part hp nx no p1 p0
          have S1 : Aside0 (∀ w, Calls Try.prog 38 #[.float .f64 (clean part 0 one), .float .f64 x] w fun e w' => e = .returned (.float .f64 u) ∧ w = w') := ⟨fun w => share_at _ x u w eu⟩
          have S2 : Aside0 (∀ w, Calls Try.prog 38 #[.float .f64 q, .float .f64 old] w fun e w' => e = .returned (.float .f64 v) ∧ w = w') := ⟨fun w => share_at q old v w ev⟩
          have hsub : ∀ t w, (binOp .sub t (.float .f64 one) (.float .f64 (clean part 0 one))).run Try.prog w = .ok (.float .f64 q) w := fun t w => run_float_arith w .sub t .f64 one _ q eq'
          rcases h with ⟨es, hb⟩ | ⟨s, es, ns, hb⟩
          · obtain ⟨n, hadd, hn⟩ := nan_add 22 u v w es
            refine (blend_p6 old x part _ u q v n w _ HC (N _ _ nx) (N _ _ no) p1 p0 S1 S2 hsub hadd (N _ _ hn)).mono ?_
            rintro e w' ⟨rfl, rfl⟩
            exact ⟨by rw [hb], below_drawn _ _ _⟩
          · exact (blend_p5 old x part _ u q v s w w HC (N _ _ nx) (N _ _ no) p1 p0 S1 S2 hsub (fun t w => run_float_arith w .add t .f64 u v s es) (N _ _ ns)).mono fun e w' h => same hb h
        · exact (blend_p4 old x part _ w w HC (N _ _ nx) (N _ _ no) p1 p0).mono fun e w' h => same (blend_zero _ _ _ nx no p1 p0) h
      · exact (blend_p3 old x part _ w w HC (N _ _ nx) (N _ _ no) p1).mono fun e w' h => same (blend_old _ _ _ nx (by rw [p1]; simp)) h
    · exact (blend_p2 old x part _ w w HC (N _ _ nx) (N _ _ no)).mono fun e w' h => same (blend_old _ _ _ nx (by rw [no]; simp)) h
  · exact (blend_p1 old x part _ w w HC (N _ _ nx)).mono fun e w' h => same (blend_nan _ _ _ nx) h
theorem refblend_at (old x part : Nat) (hp : part < 18446744073709551616) (w : World) :
    Calls Try.prog 25 #[.float .f64 old, .float .f64 x, .float .f64 part] w fun e w' => e = .returned (.float .f64 (blend old x part)) ∧ Below w.heap.size w w' := by
  have HC : Aside0 (∀ w, Calls Try.prog 22 #[.float .f64 part, .float .f64 0, .float .f64 4607182418800017408] w fun e w' => e = .returned (.float .f64 (clean part 0 one)) ∧ w = w') := ⟨fun w => refclean_at part 0 one w⟩
  have N : ∀ y b, nan y = b → (FloatKind.f64.format.order y y != some .eq) = b := fun y b h => by rw [ord_self, h]
  have same : ∀ {r : Nat} {e : Ending} {w' : World}, blend old x part = r → (e = .returned (.float .f64 r) ∧ w' = w) → (e = .returned (.float .f64 (blend old x part)) ∧ Below w.heap.size w w') := by
    rintro r e w' hr ⟨rfl, rfl⟩
    exact ⟨by rw [hr], Below.refl _ _⟩
  cases nx : nan x
  · cases no : nan old
    · cases p1 : eq (clean part 0 one) one
      · cases p0 : eq (clean part 0 one) 0
        · obtain ⟨u, q, v, eu, eq', ev, _, h⟩ := blend_parts old x part hp nx no p1 p0
          have M1 : ∀ t w, (binOp .mul t (.float .f64 (clean part 0 one)) (.float .f64 x)).run Try.prog w = .ok (.float .f64 u) w := fun t w => run_float_arith w .mul t .f64 _ x u eu
          have M2 : ∀ t w, (binOp .mul t (.float .f64 q) (.float .f64 old)).run Try.prog w = .ok (.float .f64 v) w := fun t w => run_float_arith w .mul t .f64 q old v ev
          have hsub : ∀ t w, (binOp .sub t (.float .f64 one) (.float .f64 (clean part 0 one))).run Try.prog w = .ok (.float .f64 q) w := fun t w => run_float_arith w .sub t .f64 one _ q eq'
          rcases h with ⟨es, hb⟩ | ⟨s, es, ns, hb⟩
          · obtain ⟨n, hadd, hn⟩ := nan_add 22 u v w es
            refine (blend_d6 old x part _ u q v n w _ HC (N _ _ nx) (N _ _ no) p1 p0 M1 M2 (conv_same u) (conv_same v) (conv_same q) hsub hadd (N _ _ hn)).mono ?_
            rintro e w' ⟨rfl, rfl⟩
            exact ⟨by rw [hb], below_drawn _ _ _⟩
          · exact (blend_d5 old x part _ u q v s w w HC (N _ _ nx) (N _ _ no) p1 p0 M1 M2 (conv_same u) (conv_same v) (conv_same q) hsub (fun t w => run_float_arith w .add t .f64 u v s es) (N _ _ ns)).mono fun e w' h => same hb h
        · exact (blend_d4 old x part _ w w HC (N _ _ nx) (N _ _ no) p1 p0).mono fun e w' h => same (blend_zero _ _ _ nx no p1 p0) h
      · exact (blend_d3 old x part _ w w HC (N _ _ nx) (N _ _ no) p1).mono fun e w' h => same (blend_old _ _ _ nx (by rw [p1]; simp)) h
    · exact (blend_d2 old x part _ w w HC (N _ _ nx) (N _ _ no)).mono fun e w' h => same (blend_old _ _ _ nx (by rw [no]; simp)) h
  · exact (blend_d1 old x part _ w w HC (N _ _ nx)).mono fun e w' h => same (blend_nan _ _ _ nx) h
end Go.Proofs.Ytbgpdofbnifapaa.R
