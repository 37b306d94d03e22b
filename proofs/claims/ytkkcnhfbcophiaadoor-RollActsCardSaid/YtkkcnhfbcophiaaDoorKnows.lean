/- What rolls know of what they hear: plain Lean. -/
import Derived.Test.YtkkcnhfbcophiaaDoorMerge
import Derived.Test.YtkkcnhfbcophiaaDoorSelfPlain
set_option linter.unusedVariables false
namespace Go.Proofs.YtkkcnhfbcophiaaDoor.Pure
open Go.RowKit Go.Proofs.YtkkcnhfbcophiaaDoor.B Go.Proofs.YtkkcnhfbcophiaaDoor.Band Go.Proofs.YtkkcnhfbcophiaaDoorW.PrintWords Go.Proofs.YtkkcnhfbcophiaaDoorW.PrintLast

/-- a roll of k as New and Hear leave it -/
structure RV (R : RollS) (k : Nat) (i : Int) : Prop where
  inv : RInv R k i
  k64 : k < 64
  has : hasN R.has k = true
  own : ∀ n : Nat, n < 64 → hasN R.has n = true → (R.K n).f0 = n ∧ 0 ≤ (R.K n).f2 ∧ (R.K n).f2 ≤ 3
/-- R knows u, or what is newer -/
def knows (R : RollS) (u : S31) : Prop := hasN R.has u.f0 = true ∧ newerS u (R.K u.f0.toNat) = false
/-- what R knows of others is P -/
def From (R : RollS) (k : Nat) (P : S31 → Prop) : Prop := ∀ n : Nat, n < 64 → n ≠ k → hasN R.has n = true → P (R.K n)

theorem hear_cases {R : RollS} {k : Nat} {i : Int} (h : RInv R k i) (u : S31) :
    (hearR R u = (R, false, 1) ∧ mayS u = false)
    ∨ (hearR R u = (R, false, 60) ∧ mayS u = true ∧ u.f0 = k ∧ newer u.f1 u.f2 i 0 = true)
    ∨ (hearR R u = (R.put ⟨k, u.f1 + 1, 0⟩, false, 0) ∧ mayS u = true ∧ u.f0 = k ∧ newer u.f1 u.f2 i 0 = true)
    ∨ (hearR R u = (R, false, 70) ∧ mayS u = true ∧ u.f0 = k ∧ newer u.f1 u.f2 i 0 = false)
    ∨ (hearR R u = (R, false, 70) ∧ mayS u = true ∧ u.f0 ≠ k ∧ knows R u)
    ∨ (hearR R u = (R.put u, true, 0) ∧ mayS u = true ∧ u.f0 ≠ k ∧ ¬ knows R u) := by
  unfold hearR
  rw [h.me, Int.toNat_natCast, h.mine]
  dsimp only
  by_cases hm : mayS u = true
  · rw [if_pos hm]
    by_cases hf : u.f0 = (k : Int)
    · rw [if_pos hf]
      by_cases hn : newer u.f1 u.f2 i 0 = true
      · by_cases hx : u.f1 = 18446744073709551615
        · have hr : refute (k : Int) i u.f0 u.f1 u.f2 = (i, false, 60) := by unfold refute; rw [if_pos ⟨hm, hf, hn⟩, if_pos hx]
          rw [hr]
          exact .inr (.inl ⟨rfl, hm, hf, hn⟩)
        · have hr : refute (k : Int) i u.f0 u.f1 u.f2 = (u.f1 + 1, true, 0) := by unfold refute; rw [if_pos ⟨hm, hf, hn⟩, if_neg hx]
          rw [hr]
          exact .inr (.inr (.inl ⟨rfl, hm, hf, hn⟩))
      · have hr : refute (k : Int) i u.f0 u.f1 u.f2 = (i, false, 0) := by unfold refute; rw [if_neg (fun hc => hn hc.2.2)]
        rw [hr]
        exact .inr (.inr (.inr (.inl ⟨rfl, hm, hf, by simpa using hn⟩)))
    · rw [if_neg hf]
      by_cases hc : hasN R.has u.f0 = true ∧ newerS u (R.K u.f0.toNat) = false
      · rw [if_pos hc]
        exact .inr (.inr (.inr (.inr (.inl ⟨rfl, hm, hf, hc⟩))))
      · rw [if_neg hc]
        exact .inr (.inr (.inr (.inr (.inr ⟨rfl, hm, hf, hc⟩))))
  · rw [if_neg hm]
    exact .inl ⟨rfl, by simpa using hm⟩
theorem has_range {c : Nat} {n : Int} (h : hasN c n = true) : ∃ m : Nat, n = m ∧ m < 64 := by
  unfold hasN at h
  rw [Bool.and_eq_true, decide_eq_true_iff] at h
  exact ⟨n.toNat, by omega, by omega⟩
theorem newer_trans {a b c : S31} (h1 : newerS a b = false) (h2 : newerS c b = true) : newerS a c = false := by
  have h1 := newer_not.1 h1
  have h2 := newer_iff.1 h2
  exact newer_not.2 (by omega)
theorem newer_trans' {a b c : S31} (h1 : newerS a b = false) (h2 : newerS b c = false) : newerS a c = false := by
  have h1 := newer_not.1 h1
  have h2 := newer_not.1 h2
  exact newer_not.2 (by omega)
theorem newer_self (a : S31) : newerS a a = false := newer_not.2 (by omega)
/-- what was known is known behind a put of what is newer -/
theorem knows_put {R : RollS} {v u : S31} (hv : ∃ n : Nat, v.f0 = n ∧ n < 64) (hn : hasN R.has v.f0 = true → newerS v (R.K v.f0.toNat) = true) (h : knows R u) : knows (R.put v) u := by
  obtain ⟨h1, h2⟩ := h
  obtain ⟨m, hm, hm64⟩ := has_range h1
  obtain ⟨n, hn', hn64⟩ := hv
  have hx := hasN_put R v m hm64
  rw [← hm] at hx
  refine ⟨by rw [hx, h1]; rfl, ?_⟩
  rw [hm, Int.toNat_natCast, put_K]
  rw [hm, Int.toNat_natCast] at h2
  by_cases e : m = v.f0.toNat
  · rw [if_pos e]
    have ev : v.f0 = (m : Int) := by omega
    rw [ev, Int.toNat_natCast] at hn
    exact newer_trans h2 (hn (by rw [← hm]; exact h1))
  · rw [if_neg e]; exact h2
theorem knows_put_it (R : RollS) (v : S31) (hv : ∃ n : Nat, v.f0 = n ∧ n < 64) (u : S31) (hu : u.f0 = v.f0) (h : newerS u v = false) : knows (R.put v) u := by
  obtain ⟨n, hn, hn64⟩ := hv
  have hx := hasN_put R v n hn64
  unfold knows
  rw [hu, hn, Int.toNat_natCast, put_K, if_pos (by omega)]
  exact ⟨by rw [hx, hn]; simp, h⟩
theorem n0 : (0 : Int) ≠ 60 := by decide
theorem n1 : (1 : Int) ≠ 60 := by decide
theorem n70 : (70 : Int) ≠ 60 := by decide
theorem RV.new (k : Nat) (hk : k < 64) : RV (newR k) k 0 := by
  refine ⟨RInv.new k hk, hk, ?_, ?_⟩
  · unfold newR
    rw [hasN_put _ _ k hk]
    simp
  · intro n hn h
    unfold newR at h ⊢
    rw [hasN_put _ _ n hn] at h
    have h0 : hasN (roll0 (k : Int)).has n = false := by unfold hasN roll0; simp
    rw [h0, Bool.false_or, decide_eq_true_iff] at h
    have : (k : Int) = n := h
    rw [put_K, if_pos (by show n = Int.toNat (k : Int); omega)]
    exact ⟨h, Int.le_refl 0, (by decide : (0 : Int) ≤ 3)⟩
theorem From.new (k : Nat) : From (newR k) k (fun _ => False) := by
  intro n hn hne h
  unfold newR at h
  rw [hasN_put _ _ n hn] at h
  have h0 : hasN (roll0 (k : Int)).has n = false := by unfold hasN roll0; simp
  rw [h0, Bool.false_or, decide_eq_true_iff] at h
  have : (k : Int) = n := h
  omega
theorem own_put {R : RollS} {k : Nat} {i : Int} (h : RV R k i) (v : S31) (hm : mayS v = true) :
    hasN (R.put v).has k = true ∧ ∀ n : Nat, n < 64 → hasN (R.put v).has n = true → ((R.put v).K n).f0 = n ∧ 0 ≤ ((R.put v).K n).f2 ∧ ((R.put v).K n).f2 ≤ 3 := by
  have hx := may_iff.1 hm
  refine ⟨by rw [hasN_put _ _ k h.k64, h.has]; rfl, fun n hn h2 => ?_⟩
  rw [put_K]
  rw [hasN_put _ _ n hn] at h2
  by_cases e : n = v.f0.toNat
  · rw [if_pos e]
    exact ⟨by omega, hx.2.2⟩
  · rw [if_neg e]
    rw [decide_eq_false (show ¬ v.f0 = (n : Int) by omega), Bool.or_false] at h2
    exact h.own n hn h2
/-- a roll of k hears of anything: it knows no less, of others no more than that, and that unless an incarnation is the last -/
theorem RV.hear {R : RollS} {k : Nat} {i : Int} (h : RV R k i) (u : S31) (hu : OkU u) :
    ∃ i1, i ≤ i1 ∧ RV (hearR R u).1 k i1 ∧ (∀ v, knows R v → knows (hearR R u).1 v) ∧ ((hearR R u).2.2 = 60 ∨ mayS u = false ∨ knows (hearR R u).1 u)
      ∧ (∀ P : S31 → Prop, From R k P → From (hearR R u).1 k (fun v => P v ∨ v = u))
      ∧ ((mayS u = true → u.f0 = k → newer u.f1 u.f2 i 0 = false) → (hearR R u).2.2 ≠ 60 ∧ i1 = i) := by
  obtain ⟨i1, hi1, hI1, hq⟩ := self_hears h.inv h.k64 u hu (R1 := (hearR R u).1) (b := (hearR R u).2.1) (e := (hearR R u).2.2) rfl
  have same : ∀ P : S31 → Prop, From R k P → From R k (fun v => P v ∨ v = u) := fun P hP n hn hne hh => .inl (hP n hn hne hh)
  have mine : knows R u → u.f0 = k → newer u.f1 u.f2 i 0 = false := by
    rintro ⟨h1, h2⟩ h3
    rw [h3, Int.toNat_natCast, h.inv.mine] at h2
    exact h2
  have kn : u.f0 = k → newer u.f1 u.f2 i 0 = false → knows R u := by
    intro h3 h2
    refine ⟨by rw [h3]; exact h.has, ?_⟩
    rw [h3, Int.toNat_natCast, h.inv.mine]
    exact h2
  rcases hear_cases h.inv u with ⟨e, hm⟩ | ⟨e, hm, hf, hn⟩ | ⟨e, hm, hf, hn⟩ | ⟨e, hm, hf, hn⟩ | ⟨e, hm, hf, hn⟩ | ⟨e, hm, hf, hn⟩
  · rw [e] at hI1 ⊢
    exact ⟨i, Int.le_refl _, h, fun _ h => h, .inr (.inl hm), same, fun _ => ⟨n1, rfl⟩⟩
  · rw [e] at hI1 ⊢
    exact ⟨i, Int.le_refl _, h, fun _ h => h, .inl rfl, same, fun h2 => by rw [h2 hm hf] at hn; cases hn⟩
  · rw [e] at hI1 ⊢
    have hm' : mayS ⟨k, u.f1 + 1, 0⟩ = true := may_iff.2 (show 0 ≤ (k : Int) ∧ (k : Int) < 64 ∧ (0 : Int) ≤ 0 ∧ (0 : Int) ≤ 3 from by have := h.k64; omega)
    have hv : ∃ n : Nat, (⟨k, u.f1 + 1, 0⟩ : S31).f0 = n ∧ n < 64 := ⟨k, rfl, h.k64⟩
    have hnn := newer_iff.1 hn
    have op := own_put h _ hm'
    refine ⟨i1, hi1, ⟨hI1, h.k64, op.1, op.2⟩, fun v hv' => knows_put hv (fun _ => ?_) hv', .inr (.inr (knows_put_it R _ hv u hf ?_)), ?_, fun h2 => by rw [h2 hm hf] at hn; cases hn⟩
    · rw [Int.toNat_natCast, h.inv.mine]
      exact newer_iff.2 (show i < u.f1 + 1 ∨ _ from by omega)
    · exact newer_not.2 (show ¬ (u.f1 + 1 < u.f1 ∨ u.f1 = u.f1 + 1 ∧ 0 < u.f2) from by omega)
    · intro P hP n hn hne hh
      rw [hasN_put _ _ n hn, decide_eq_false (show ¬ (k : Int) = (n : Int) by omega), Bool.or_false] at hh
      rw [put_K, if_neg (by show ¬ n = Int.toNat (k : Int); omega)]
      exact .inl (hP n hn hne hh)
  · rw [e] at hI1 ⊢
    exact ⟨i, Int.le_refl _, h, fun _ h => h, .inr (.inr (kn hf hn)), same, fun _ => ⟨n70, rfl⟩⟩
  · rw [e] at hI1 ⊢
    exact ⟨i, Int.le_refl _, h, fun _ h => h, .inr (.inr hn), same, fun _ => ⟨n70, rfl⟩⟩
  · rw [e] at hI1 ⊢
    have hv := may_node hm
    have op := own_put h u hm
    have hi : i1 = i := by
      obtain ⟨n, hn, _⟩ := hv
      have h1 := hI1.mine
      rw [put_K, if_neg (by rw [hn, Int.toNat_natCast]; omega), h.inv.mine] at h1
      exact (congrArg S31.f1 h1).symm
    refine ⟨i1, hi1, ⟨hI1, h.k64, op.1, op.2⟩, fun v hv' => knows_put hv (fun h1 => ?_) hv', .inr (.inr (knows_put_it R u hv u rfl (newer_self u))), ?_, fun _ => ⟨n0, hi⟩⟩
    · cases hc : newerS u (R.K u.f0.toNat)
      · exact absurd ⟨h1, hc⟩ hn
      · rfl
    · intro P hP n hn' hne hh
      rw [put_K]
      by_cases e : n = u.f0.toNat
      · rw [if_pos e]; exact .inr rfl
      · rw [if_neg e]
        obtain ⟨m, hm', _⟩ := hv
        rw [hasN_put _ _ n hn', decide_eq_false (show ¬ u.f0 = (n : Int) by omega), Bool.or_false] at hh
        exact .inl (hP n hn' hne hh)
/-- what is known is no news -/
theorem hear_known {R : RollS} {k : Nat} {i : Int} (h : RV R k i) (u : S31) (hk : mayS u = false ∨ knows R u) : ∃ e, hearR R u = (R, false, e) ∧ e ≠ 60 := by
  have mine : knows R u → u.f0 = k → newer u.f1 u.f2 i 0 = false := by
    rintro ⟨h1, h2⟩ h3
    rw [h3, Int.toNat_natCast, h.inv.mine] at h2
    exact h2
  rcases hear_cases h.inv u with ⟨e, hm⟩ | ⟨e, hm, hf, hn⟩ | ⟨e, hm, hf, hn⟩ | ⟨e, hm, hf, hn⟩ | ⟨e, hm, hf, hn⟩ | ⟨e, hm, hf, hn⟩
  · exact ⟨1, e, by decide⟩
  · rcases hk with hk | hk
    · rw [hk] at hm; cases hm
    · rw [mine hk hf] at hn; cases hn
  · rcases hk with hk | hk
    · rw [hk] at hm; cases hm
    · rw [mine hk hf] at hn; cases hn
  · exact ⟨70, e, by decide⟩
  · exact ⟨70, e, by decide⟩
  · rcases hk with hk | hk
    · rw [hk] at hm; cases hm
    · exact absurd hk hn
theorem hearL_known {R : RollS} {k : Nat} {i : Int} (h : RV R k i) : ∀ l : List S31, (∀ u ∈ l, mayS u = false ∨ knows R u) → hearL R l = (R, true)
  | [], _ => rfl
  | u :: l, hl => by
    obtain ⟨e, he, hne⟩ := hear_known h u (hl u (List.mem_cons_self ..))
    rw [hearL, he, if_neg hne]
    exact hearL_known h l (fun v hv => hl v (List.mem_cons_of_mem _ hv))
/-- a list is heard -/
theorem RV.hearL {k : Nat} : ∀ (l : List S31) (R : RollS) (i : Int), RV R k i → (∀ u ∈ l, OkU u) →
    ∃ i1, i ≤ i1 ∧ RV (B.hearL R l).1 k i1 ∧ (∀ v, knows R v → knows (B.hearL R l).1 v) ∧ ((B.hearL R l).2 = true → ∀ u ∈ l, mayS u = false ∨ knows (B.hearL R l).1 u)
      ∧ (∀ P : S31 → Prop, From R k P → From (B.hearL R l).1 k (fun v => P v ∨ v ∈ l))
      ∧ ((∀ u ∈ l, mayS u = true → u.f0 = k → newer u.f1 u.f2 i 0 = false) → (B.hearL R l).2 = true ∧ i1 = i)
  | [], R, i, h, hl => ⟨i, Int.le_refl _, h, fun _ h => h, fun _ u hu => by simp at hu, fun P hP n hn hne hh => .inl (hP n hn hne hh), fun _ => ⟨rfl, rfl⟩⟩
  | u :: l, R, i, h, hl => by
    obtain ⟨j, hij, hV, hkn, hq, hF, hS⟩ := h.hear u (hl u (List.mem_cons_self ..))
    rw [B.hearL]
    by_cases he : (hearR R u).2.2 = 60
    · rw [if_pos he]
      refine ⟨j, hij, hV, hkn, fun h2 => by simp at h2, fun P hP n hn hne hh => ?_, fun h2 => absurd he (hS (h2 u (List.mem_cons_self ..))).1⟩
      rcases hF P hP n hn hne hh with h3 | h3
      · exact .inl h3
      · exact .inr (by rw [h3]; exact List.mem_cons_self ..)
    · rw [if_neg he]
      obtain ⟨j2, hj, hV2, hkn2, hq2, hF2, hS2⟩ := RV.hearL l (hearR R u).1 j hV (fun v hv => hl v (List.mem_cons_of_mem _ hv))
      refine ⟨j2, Int.le_trans hij hj, hV2, fun v hv => hkn2 v (hkn v hv), fun h2 v hv => ?_, fun P hP n hn hne hh => ?_, fun h2 => ?_⟩
      · rcases List.mem_cons.1 hv with rfl | hv
        · rcases hq with h3 | h3 | h3
          · exact absurd h3 he
          · exact .inl h3
          · exact .inr (hkn2 _ h3)
        · exact hq2 h2 v hv
      · rcases hF2 _ (hF P hP) n hn hne hh with (h3 | h3) | h3
        · exact .inl h3
        · exact .inr (by rw [h3]; exact List.mem_cons_self ..)
        · exact .inr (List.mem_cons_of_mem _ h3)
      · have e := (hS (h2 u (List.mem_cons_self ..))).2
        have := hS2 (fun v hv h3 h4 => by rw [e]; exact h2 v (List.mem_cons_of_mem _ hv) h3 h4)
        exact ⟨this.1, this.2.trans e⟩
theorem RV.okU {R : RollS} {k : Nat} {i : Int} (h : RV R k i) (n : Nat) : OkU (R.K n) := h.inv.ok.inc n
theorem RV.may {R : RollS} {k : Nat} {i : Int} (h : RV R k i) (n : Nat) (hn : n < 64) (hh : hasN R.has n = true) : mayS (R.K n) = true := by
  have := h.own n hn hh
  exact may_iff.2 (by omega)
theorem RV.knowsK {R : RollS} {k : Nat} {i : Int} (h : RV R k i) (n : Nat) (hn : n < 64) (hh : hasN R.has n = true) : knows R (R.K n) := by
  have := (h.own n hn hh).1
  unfold knows
  rw [this, Int.toNat_natCast]
  exact ⟨hh, newer_self _⟩
theorem mem_allL {R : RollS} {u : S31} : u ∈ allL R ↔ ∃ n : Nat, n < 64 ∧ hasN R.has n = true ∧ u = R.K n := by
  unfold allL
  rw [List.mem_map]
  constructor
  · rintro ⟨x, hx, rfl⟩
    obtain ⟨n, hn, hb, rfl⟩ := (mem_bandL _ _).1 hx
    refine ⟨n, hn, ?_, by rw [Int.toNat_natCast]⟩
    unfold hasN
    rw [Int.toNat_natCast, hb, decide_eq_true (by omega)]; rfl
  · rintro ⟨n, hn, hb, rfl⟩
    refine ⟨n, (mem_bandL _ _).2 ⟨n, hn, ?_, rfl⟩, by rw [Int.toNat_natCast]⟩
    unfold hasN at hb
    rw [Int.toNat_natCast, Bool.and_eq_true] at hb
    exact hb.2
theorem mem_newsL {R0 R : RollS} {u : S31} : u ∈ newsL R0 R ↔ ∃ n : Nat, n < 64 ∧ hasN R.has n = true ∧ newsP R0 R n = true ∧ u = R.K n := by
  unfold newsL
  rw [List.mem_map]
  constructor
  · rintro ⟨x, hx, rfl⟩
    obtain ⟨hx, hp⟩ := List.mem_filter.1 hx
    obtain ⟨n, hn, hb, rfl⟩ := (mem_bandL _ _).1 hx
    refine ⟨n, hn, ?_, hp, by rw [Int.toNat_natCast]⟩
    unfold hasN
    rw [Int.toNat_natCast, hb, decide_eq_true (by omega)]; rfl
  · rintro ⟨n, hn, hb, hp, rfl⟩
    refine ⟨n, List.mem_filter.2 ⟨(mem_bandL _ _).2 ⟨n, hn, ?_, rfl⟩, hp⟩, by rw [Int.toNat_natCast]⟩
    unfold hasN at hb
    rw [Int.toNat_natCast, Bool.and_eq_true] at hb
    exact hb.2
theorem neS_self (a : S31) : neS a a = false := by unfold neS; simp
theorem neS_false {a b : S31} (h : neS a b = false) : a = b := by
  unfold neS at h
  rw [Bool.or_eq_false_iff, Bool.or_eq_false_iff] at h
  obtain ⟨h0, h1, h2⟩ := h
  rw [Bool.not_eq_false', beq_iff_eq] at h0 h1 h2
  cases a; cases b
  simp_all
theorem newsL_self (R : RollS) : newsL R R = [] := by
  cases h : newsL R R with
  | nil => rfl
  | cons u t =>
    obtain ⟨n, hn, hb, hp, -⟩ := mem_newsL.1 (show u ∈ newsL R R by rw [h]; exact List.mem_cons_self ..)
    unfold newsP at hp
    rw [hb, neS_self] at hp
    cases hp
/-- two that know each other's, of node n -/
theorem same_at {R S : RollS} {k o : Nat} {i j : Int} (hR : RV R k i) (hS : RV S o j) (n : Nat) (hn : n < 64) (h1 : hasN R.has n = true → knows S (R.K n)) (h2 : hasN S.has n = true → knows R (S.K n)) :
    hasN R.has n = hasN S.has n ∧ (hasN R.has n = true → R.K n = S.K n) := by
  have e : hasN R.has n = hasN S.has n := by
    cases hr : hasN R.has n
    · cases hs : hasN S.has n
      · rfl
      · have := (h2 hs).1
        rw [(hS.own n hn hs).1, hr] at this
        exact this
    · have := (h1 hr).1
      rw [(hR.own n hn hr).1] at this
      exact this.symm
  refine ⟨e, fun hr => ?_⟩
  have hs := e ▸ hr
  have a := (h1 hr).2
  have b := (h2 hs).2
  have ar := hR.own n hn hr
  have as_ := hS.own n hn hs
  rw [ar.1, Int.toNat_natCast] at a
  rw [as_.1, Int.toNat_natCast] at b
  have a := newer_not.1 a
  have b := newer_not.1 b
  generalize R.K n = x at *
  generalize S.K n = y at *
  obtain ⟨x0, x1, x2⟩ := x
  obtain ⟨y0, y1, y2⟩ := y
  dsimp only at *
  have e0 : x0 = y0 := by omega
  have e1 : x1 = y1 := by omega
  have e2 : x2 = y2 := by omega
  rw [e0, e1, e2]
theorem allL_same {R S : RollS} (hR : R.has < 18446744073709551616) (hS : S.has < 18446744073709551616) (h : ∀ n : Nat, n < 64 → hasN R.has n = hasN S.has n ∧ (hasN R.has n = true → R.K n = S.K n)) : allL R = allL S := by
  have e : R.has = S.has := eq_of_bits hR hS (fun n hn => by
    have := (h n hn).1
    unfold hasN at this
    rwa [Int.toNat_natCast, decide_eq_true (show (0 : Int) ≤ (n : Int) ∧ (n : Int) ≤ 63 by omega), Bool.true_and, Bool.true_and] at this)
  unfold allL
  rw [← e]
  apply List.map_congr_left
  intro x hx
  obtain ⟨n, hn, hb, rfl⟩ := (mem_bandL _ _).1 hx
  rw [Int.toNat_natCast]
  refine (h n hn).2 ?_
  unfold hasN
  rw [Int.toNat_natCast, hb, decide_eq_true (by omega)]; rfl
end Go.Proofs.YtkkcnhfbcophiaaDoor.Pure
