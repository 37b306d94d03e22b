/- Why no two choices are accepted by majorities: plain Lean. -/
import Derived.Test.YtnlppniejeemlaaHand
set_option linter.unusedVariables false
namespace Go.Proofs.Ytnlppniejeemlaa.Pure
open Go.RowKit Go.Proofs.Ytnlppniejeemlaa.B Go.Proofs.YtnlppniejeemlaaW.PrintWords Go.Proofs.YtnlppniejeemlaaW.PrintLast

/-- how many below n -/
def cntB (P : Nat → Bool) : Nat → Nat
  | 0 => 0
  | n + 1 => cntB P n + if P n = true then 1 else 0
theorem meet_le (P Q : Nat → Bool) : ∀ n, (∀ j < n, ¬ (P j = true ∧ Q j = true)) → cntB P n + cntB Q n ≤ n
  | 0, _ => Nat.le_refl _
  | n + 1, h => by
    have ih := meet_le P Q n (fun j hj => h j (by omega))
    have := h n (by omega)
    unfold cntB
    by_cases hp : P n = true
    · by_cases hq : Q n = true
      · exact absurd ⟨hp, hq⟩ this
      · rw [if_pos hp, if_neg hq]; omega
    · by_cases hq : Q n = true
      · rw [if_neg hp, if_pos hq]; omega
      · rw [if_neg hp, if_neg hq]; omega
theorem meet (P Q : Nat → Bool) (n : Nat) (hp : n < 2 * cntB P n) (hq : n < 2 * cntB Q n) : ∃ j, j < n ∧ P j = true ∧ Q j = true := by
  refine Classical.byContradiction fun h => ?_
  have := meet_le P Q n (fun j hj hc => h ⟨j, hj, hc.1, hc.2⟩)
  omega
/-- an acceptor: its top, and what it accepted last -/
structure Acc where
  top : Int
  last : S29
def ok1 (T : Nat → Acc) (F : Nat → Bool) (b : Int) (j : Nat) : Bool := F j && decide ((T j).top ≤ b)
/-- the first m are prepared -/
def prepT (T : Nat → Acc) (F : Nat → Bool) (b : Int) (m : Nat) (j : Nat) : Acc := if j < m ∧ ok1 T F b j = true then ⟨b, (T j).last⟩ else T j
/-- what they promise -/
def prepL (T : Nat → Acc) (F : Nat → Bool) (b : Int) : Nat → List S29
  | 0 => []
  | m + 1 => if ok1 T F b m = true then prepL T F b m ++ [(T m).last] else prepL T F b m
/-- the first m are asked to accept -/
def accT (T : Nat → Acc) (G : Nat → Bool) (b : Int) (v : S27) (m : Nat) (j : Nat) : Acc := if j < m ∧ ok1 T G b j = true then ⟨b, ⟨b, v⟩⟩ else T j
theorem prepL_mem (T : Nat → Acc) (F : Nat → Bool) (b : Int) : ∀ (m : Nat) (p : S29), p ∈ prepL T F b m ↔ ∃ j, j < m ∧ ok1 T F b j = true ∧ p = (T j).last
  | 0, p => by simp [prepL]
  | m + 1, p => by
    have ih := prepL_mem T F b m p
    unfold prepL
    by_cases h : ok1 T F b m = true
    · rw [if_pos h, List.mem_append, ih, List.mem_singleton]
      constructor
      · rintro (⟨j, hj, a, c⟩ | rfl)
        · exact ⟨j, by omega, a, c⟩
        · exact ⟨m, by omega, h, rfl⟩
      · rintro ⟨j, hj, a, c⟩
        by_cases e : j = m
        · subst e; exact .inr c
        · exact .inl ⟨j, by omega, a, c⟩
    · rw [if_neg h, ih]
      constructor
      · rintro ⟨j, hj, a, c⟩; exact ⟨j, by omega, a, c⟩
      · rintro ⟨j, hj, a, c⟩
        by_cases e : j = m
        · subst e; exact absurd a h
        · exact ⟨j, by omega, a, c⟩
theorem best_or (l : List S29) : ∀ z : S29, l.foldl better z = z ∨ l.foldl better z ∈ l := by
  induction l with
  | nil => intro z; exact .inl rfl
  | cons p l ih =>
    intro z
    rw [List.foldl_cons]
    rcases ih (better z p) with h | h
    · rw [h]
      unfold better
      split
      · exact .inr (List.mem_cons_self ..)
      · exact .inl rfl
    · exact .inr (List.mem_cons_of_mem _ h)
theorem best_ge (l : List S29) : ∀ z : S29, z.f0 ≤ (l.foldl better z).f0 ∧ ∀ p ∈ l, p.f0 ≤ (l.foldl better z).f0 := by
  induction l with
  | nil => intro z; exact ⟨Int.le_refl _, fun p hp => by simp at hp⟩
  | cons q l ih =>
    intro z
    rw [List.foldl_cons]
    obtain ⟨h1, h2⟩ := ih (better z q)
    have hb : z.f0 ≤ (better z q).f0 ∧ q.f0 ≤ (better z q).f0 := by
      unfold better
      split
      · omega
      · omega
    refine ⟨by omega, fun p hp => ?_⟩
    rcases List.mem_cons.1 hp with rfl | hp
    · omega
    · exact h2 p hp
structure AInv (n : Nat) (T : Nat → Acc) (rd : Nat → Int) (ch : List S27) (B : Int) : Prop where
  b0 : 0 ≤ B
  old : ∀ j, j < n → 0 ≤ (T j).last.f0 ∧ (T j).last.f0 ≤ B ∧ (T j).last.f0 ≤ (T j).top
  maj : B = 0 ∨ ∃ P, n < 2 * cntB P n ∧ ∀ j, j < n → P j = true → B ≤ (T j).top
  num : B = 0 ∨ ∃ (r : Int) (k : Nat), k < n ∧ r ≤ rd k ∧ B = r * 64 + k + 1
  cho : ch = [] ∨ ∃ (c : Int) (V : S27), 0 < c ∧ c ≤ B ∧ (∀ u ∈ ch, u = V) ∧ (∃ Q, n < 2 * cntB Q n ∧ ∀ j, j < n → Q j = true → c ≤ (T j).last.f0) ∧ ∀ j, j < n → c ≤ (T j).last.f0 → (T j).last.f1 = V
theorem AInv.start (n : Nat) : AInv n (fun _ => ⟨0, z29⟩) (fun _ => 0) [] 0 :=
  ⟨Int.le_refl _, fun j hj => ⟨Int.le_refl _, Int.le_refl _, Int.le_refl _⟩, .inl rfl, .inl rfl, .inl rfl⟩
def upd (rd : Nat → Int) (k : Nat) (s : Int) (j : Nat) : Int := if j = k then rd k + s else rd j
theorem AInv.heard {n : Nat} {T : Nat → Acc} {rd : Nat → Int} {ch : List S27} {B : Int} (h : AInv n T rd ch B) (k : Nat) (s : Int) (hs : 1 ≤ s) (F : Nat → Bool) (b : Int) : AInv n (prepT T F b n) (upd rd k s) ch B := by
  have hl : ∀ j, (prepT T F b n j).last = (T j).last := fun j => by unfold prepT; split <;> rfl
  have ht : ∀ j, (T j).top ≤ (prepT T F b n j).top := fun j => by
    unfold prepT
    split
    · rename_i hc
      have := hc.2
      unfold ok1 at this
      rw [Bool.and_eq_true, decide_eq_true_iff] at this
      exact this.2
    · exact Int.le_refl _
  refine ⟨h.b0, fun j hj => ?_, ?_, ?_, ?_⟩
  · rw [hl]; have := h.old j hj; have := ht j; omega
  · rcases h.maj with e | ⟨P, hP, hq⟩
    · exact .inl e
    · exact .inr ⟨P, hP, fun j hj hp => Int.le_trans (hq j hj hp) (ht j)⟩
  · rcases h.num with e | ⟨r, k', hk, hr, e⟩
    · exact .inl e
    · refine .inr ⟨r, k', hk, ?_, e⟩
      unfold upd
      split
      · rename_i e2; subst e2; omega
      · exact hr
  · simp only [hl]; exact h.cho
theorem AInv.turn {n : Nat} {T : Nat → Acc} {rd : Nat → Int} {ch : List S27} {B : Int} (h : AInv n T rd ch B) (hn : n ≤ 7) (k : Nat) (hk : k < n) (s : Int) (hs : 1 ≤ s) (hr0 : 0 ≤ rd k) (F G : Nat → Bool) (b : Int) (hb : b = (rd k + s) * 64 + k + 1)
    (hm : n < 2 * cntB (ok1 T F b) n) (v : S27) (hv : 0 < (bestOf (prepL T F b n)).f0 → v = (bestOf (prepL T F b n)).f1) :
    AInv n (accT (prepT T F b n) G b v n) (upd rd k s) (if n < 2 * cntB (ok1 (prepT T F b n) G b) n then ch ++ [v] else ch) b := by
  have hlt : B < b := by
    rcases h.maj with e | ⟨P, hP, hq⟩
    · omega
    · rcases h.num with e | ⟨r, k', hk', hr, e⟩
      · omega
      · obtain ⟨j, hj, h1, h2⟩ := meet P _ n hP hm
        have h3 := hq j hj h1
        unfold ok1 at h2
        rw [Bool.and_eq_true, decide_eq_true_iff] at h2
        by_cases ek : k' = k
        · subst ek; omega
        · omega
  have hT : ∀ j, j < n → ((accT (prepT T F b n) G b v n j).last = ⟨b, v⟩ ∧ ok1 (prepT T F b n) G b j = true ∨ (accT (prepT T F b n) G b v n j).last = (T j).last ∧ ok1 (prepT T F b n) G b j = false) := fun j hj => by
    unfold accT
    by_cases ho : ok1 (prepT T F b n) G b j = true
    · rw [if_pos ⟨hj, ho⟩]; exact .inl ⟨rfl, ho⟩
    · rw [if_neg (fun hc => ho hc.2)]
      refine .inr ⟨?_, by simpa using ho⟩
      unfold prepT; split <;> rfl
  have ht : ∀ j, j < n → (T j).top ≤ (accT (prepT T F b n) G b v n j).top ∧ (ok1 T F b j = true → b ≤ (accT (prepT T F b n) G b v n j).top) ∧ (ok1 (prepT T F b n) G b j = true → b ≤ (accT (prepT T F b n) G b v n j).top) := fun j hj => by
    have hp : (T j).top ≤ (prepT T F b n j).top ∧ (ok1 T F b j = true → (prepT T F b n j).top = b) := by
      unfold prepT
      by_cases ho : ok1 T F b j = true
      · rw [if_pos ⟨hj, ho⟩]
        refine ⟨?_, fun _ => rfl⟩
        unfold ok1 at ho
        rw [Bool.and_eq_true, decide_eq_true_iff] at ho
        exact ho.2
      · rw [if_neg (fun hc => ho hc.2)]
        exact ⟨Int.le_refl _, fun hc => absurd hc ho⟩
    unfold accT
    by_cases ho : ok1 (prepT T F b n) G b j = true
    · rw [if_pos ⟨hj, ho⟩]
      have h2 := ho
      unfold ok1 at h2
      rw [Bool.and_eq_true, decide_eq_true_iff] at h2
      exact ⟨Int.le_trans hp.1 h2.2, fun _ => Int.le_refl _, fun _ => Int.le_refl _⟩
    · rw [if_neg (fun hc => ho hc.2)]
      exact ⟨hp.1, fun hc => by rw [hp.2 hc]; exact Int.le_refl _, fun hc => absurd hc ho⟩
  refine ⟨by have := h.b0; omega, fun j hj => ?_, .inr ⟨_, hm, fun j hj ho => (ht j hj).2.1 ho⟩, .inr ⟨rd k + s, k, hk, by unfold upd; rw [if_pos rfl]; exact Int.le_refl _, hb⟩, ?_⟩
  · have h1 := h.old j hj
    have h2 := ht j hj
    have h0 := h.b0
    rcases hT j hj with ⟨e, ho⟩ | ⟨e, ho⟩
    · rw [e]
      have := h2.2.2 ho
      refine ⟨by show 0 ≤ b; omega, Int.le_refl _, this⟩
    · rw [e]; omega
  · rcases h.cho with e | ⟨c, V, hc0, hcB, hch, ⟨Q, hQ, hq⟩, hV⟩
    · by_cases hm2 : n < 2 * cntB (ok1 (prepT T F b n) G b) n
      · rw [if_pos hm2, e]
        refine .inr ⟨b, v, by have := h.b0; omega, Int.le_refl _, fun u hu => by simpa using hu, ⟨_, hm2, fun j hj ho => ?_⟩, fun j hj hle => ?_⟩
        · rcases hT j hj with ⟨e2, -⟩ | ⟨-, ho2⟩
          · rw [e2]; exact Int.le_refl _
          · rw [ho2] at ho; cases ho
        · rcases hT j hj with ⟨e2, -⟩ | ⟨e2, -⟩
          · rw [e2]
          · rw [e2] at hle; have := h.old j hj; omega
      · rw [if_neg hm2]; exact .inl e
    · obtain ⟨j, hj, h1, h2⟩ := meet Q _ n hQ hm
      have h3 := hq j hj h1
      have hbest := best_ge (prepL T F b n) z29
      have h4 := hbest.2 _ ((prepL_mem T F b n _).2 ⟨j, hj, h2, rfl⟩)
      have h5 : c ≤ (bestOf (prepL T F b n)).f0 := Int.le_trans h3 h4
      have hvV : v = V := by
        rw [hv (by omega)]
        rcases best_or (prepL T F b n) z29 with e | hmem
        · have : (bestOf (prepL T F b n)).f0 = 0 := by unfold bestOf; rw [e]; rfl
          omega
        · obtain ⟨i, hi, -, e⟩ := (prepL_mem T F b n _).1 hmem
          have e' : bestOf (prepL T F b n) = (T i).last := e
          rw [e'] at h5 ⊢
          exact hV i hi h5
      subst hvV
      refine .inr ⟨c, v, hc0, by omega, fun u hu => ?_, ⟨Q, hQ, fun i hi hQi => ?_⟩, fun i hi hle => ?_⟩
      · split at hu
        · rcases List.mem_append.1 hu with hu | hu
          · exact hch u hu
          · exact List.mem_singleton.1 hu
        · exact hch u hu
      · rcases hT i hi with ⟨e2, -⟩ | ⟨e2, -⟩
        · rw [e2]; show c ≤ b; omega
        · rw [e2]; exact hq i hi hQi
      · rcases hT i hi with ⟨e2, -⟩ | ⟨e2, -⟩
        · rw [e2]
        · rw [e2] at hle ⊢; exact hV i hi hle
theorem AInv.all {n : Nat} {T : Nat → Acc} {rd : Nat → Int} {ch : List S27} {B : Int} (h : AInv n T rd ch B) : ∀ u ∈ ch, ∀ v ∈ ch, u = v := by
  intro u hu v hv
  rcases h.cho with e | ⟨c, V, -, -, hch, -, -⟩
  · rw [e] at hu; simp at hu
  · rw [hch u hu, hch v hv]
end Go.Proofs.Ytnlppniejeemlaa.Pure
