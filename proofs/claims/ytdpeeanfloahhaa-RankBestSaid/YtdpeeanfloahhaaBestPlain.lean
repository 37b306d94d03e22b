/- What the best one of a list is, in plain words: for updates of one node. -/
import Derived.Test.YtdpeeanfloahhaaBest
namespace Go.Proofs.Ytdpeeanfloahhaa.Pure
open Go.RowKit Go.Proofs.Ytdpeeanfloahhaa.B Go.Proofs.YtdpeeanfloahhaaW.PrintWords Go.Proofs.YtdpeeanfloahhaaW.PrintLast

/-- the best one so far -/
def IsBest (pre : List S24) (b : S24 × Bool) : Prop :=
  (b = (z24, false) ∧ ∀ u ∈ pre, mayS u = false) ∨ (b.2 = true ∧ b.1 ∈ pre ∧ mayS b.1 = true ∧ ∀ u ∈ pre, mayS u = true → newerS u b.1 = false)
theorem newerS_iff {a b : S24} : newerS a b = true ↔ (b.f1 < a.f1 ∨ a.f1 = b.f1 ∧ b.f2 < a.f2) := newer_iff
theorem newerS_not {a b : S24} : newerS a b = false ↔ ¬ (b.f1 < a.f1 ∨ a.f1 = b.f1 ∧ b.f2 < a.f2) := newer_not
theorem bstep_best (pre : List S24) (b : S24 × Bool) (u : S24) (h3 : ∀ v ∈ pre, v.f0 = 3) (hu : u.f0 = 3) (h : IsBest pre b) : IsBest (pre ++ [u]) (bstep b u) := by
  unfold bstep
  by_cases hm : mayS u = true
  · rcases h with ⟨rfl, h⟩ | ⟨h1, h2, h4, h5⟩
    · rw [if_pos ⟨hm, .inl rfl⟩]
      refine .inr ⟨rfl, by simp, hm, ?_⟩
      intro v hv hvm
      rcases List.mem_append.1 hv with h' | h'
      · rw [h v h'] at hvm; cases hvm
      · obtain rfl : v = u := by simpa using h'
        exact newer_self v
    · by_cases hn : newerS u b.1 = true
      · rw [if_pos ⟨hm, .inr ⟨by rw [hu, h3 _ h2], hn⟩⟩]
        refine .inr ⟨rfl, by simp, hm, ?_⟩
        intro v hv hvm
        rcases List.mem_append.1 hv with h' | h'
        · have a := newerS_not.1 (h5 v h' hvm)
          have c := newerS_iff.1 hn
          exact newerS_not.2 (by show ¬ (u.f1 < v.f1 ∨ v.f1 = u.f1 ∧ u.f2 < v.f2); omega)
        · obtain rfl : v = u := by simpa using h'
          exact newer_self v
      · rw [if_neg (by rintro ⟨-, h | ⟨-, h⟩⟩; · rw [h1] at h; cases h
                       · exact hn h)]
        refine .inr ⟨h1, by simp [h2], h4, ?_⟩
        intro v hv hvm
        rcases List.mem_append.1 hv with h' | h'
        · exact h5 v h' hvm
        · obtain rfl : v = u := by simpa using h'
          simpa using hn
  · rw [if_neg (fun h => hm h.1)]
    rcases h with ⟨rfl, h⟩ | ⟨h1, h2, h4, h5⟩
    · refine .inl ⟨rfl, ?_⟩
      intro v hv
      rcases List.mem_append.1 hv with h' | h'
      · exact h v h'
      · obtain rfl : v = u := by simpa using h'
        simpa using hm
    · refine .inr ⟨h1, by simp [h2], h4, ?_⟩
      intro v hv hvm
      rcases List.mem_append.1 hv with h' | h'
      · exact h5 v h' hvm
      · obtain rfl : v = u := by simpa using h'
        exact absurd hvm hm
theorem foldl_best (l : List S24) : ∀ (pre : List S24) (b : S24 × Bool), (∀ v ∈ pre ++ l, v.f0 = 3) → IsBest pre b → IsBest (pre ++ l) (l.foldl bstep b) := by
  induction l with
  | nil => intro pre b _ h; simpa using h
  | cons u l ih =>
    intro pre b h3 h
    have := ih (pre ++ [u]) (bstep b u) (by simpa using h3) (bstep_best pre b u (fun v hv => h3 v (by simp [hv])) (h3 u (by simp)) h)
    simpa using this
theorem best_is (l : List S24) (h3 : ∀ v ∈ l, v.f0 = 3) : IsBest l (bestS l) := by
  have := foldl_best l [] (z24, false) (by simpa using h3) (.inl ⟨rfl, by simp⟩)
  rw [List.nil_append] at this
  exact this
theorem best_same (l m : List S24) (h3 : ∀ v ∈ l, v.f0 = 3) (hm : ∀ v, v ∈ l ↔ v ∈ m) : bestS l = bestS m := by
  have hl := best_is l h3
  have hk := best_is m (fun v hv => h3 v ((hm v).2 hv))
  rcases hl with ⟨e1, h1⟩ | ⟨a1, a2, a3, a4⟩ <;> rcases hk with ⟨e2, h2⟩ | ⟨b1, b2, b3, b4⟩
  · rw [e1, e2]
  · exact absurd (h1 _ ((hm _).2 b2)) (by rw [b3]; decide)
  · exact absurd (h2 _ ((hm _).1 a2)) (by rw [a3]; decide)
  · have c1 := newerS_not.1 (a4 _ ((hm _).2 b2) b3)
    have c2 := newerS_not.1 (b4 _ ((hm _).1 a2) a3)
    have d1 := h3 _ a2
    have d2 := h3 _ ((hm _).2 b2)
    generalize bestS l = x at *
    generalize bestS m = y at *
    obtain ⟨⟨x0, x1, x2⟩, x3⟩ := x
    obtain ⟨⟨y0, y1, y2⟩, y3⟩ := y
    simp only at *
    have e1 : x1 = y1 := by omega
    have e2 : x2 = y2 := by omega
    rw [d1, d2, a1, b1, e1, e2]
/-- with the node set to 3 -/
def to3 (p : S24) : S24 := ⟨3, p.f1, p.f2⟩
def turnS (k : Nat) (m : List S24) : List S24 := m.drop k ++ m.take k
theorem best_turn (k : Nat) (m : List S24) (h3 : ∀ v ∈ m, v.f0 = 3) : bestS (turnS k m) = bestS m := by
  refine (best_same m _ h3 ?_).symm
  intro v
  conv => lhs; rw [← List.take_append_drop k m]
  simp only [turnS, List.mem_append]
  exact Or.comm
theorem all3 (l : List S24) : ∀ v ∈ l.map to3, v.f0 = 3 := by
  intro v hv
  obtain ⟨u, _, rfl⟩ := List.mem_map.1 hv
  rfl
theorem best_any (m : List S24) (h3 : ∀ v ∈ m, v.f0 = 3) : (bestS m).2 = m.any mayS := by
  rcases best_is m h3 with ⟨e, h⟩ | ⟨a, b, c, -⟩
  · rw [e]; symm; simp only [List.any_eq_false]; intro u hu; simp [h u hu]
  · rw [a]; symm; simp only [List.any_eq_true]; exact ⟨_, b, c⟩
theorem best_no (m : List S24) (h3 : ∀ v ∈ m, v.f0 = 3) (u : S24) (hu : u ∈ m) (hm : mayS u = true) : newerS u (bestS m).1 = false := by
  rcases best_is m h3 with ⟨e, h⟩ | ⟨a, b, c, d⟩
  · rw [h u hu] at hm; cases hm
  · exact d u hu hm
end Go.Proofs.Ytdpeeanfloahhaa.Pure
