/- RealMax, by hand: the law's own walk. -/
import Derived.Test.YtbgpdofbnifapaaMaxLaw
namespace Go.Proofs.Ytbgpdofbnifapaa.R
open Go.RowKit Go.Proofs.YtbgpdofbnifapaaW.PrintWords Go.Proofs.YtbgpdofbnifapaaW.PrintLast Go.Proofs.YtbgpdofbnifapaaW.PrintMore

theorem max_none (A : Option Addr) (c : Nat) (w : World) : Calls Try.prog 27 #[.slice A 0 c] w fun e w' => e = .returned (.float .f64 18442240474082181120) ∧ w = w' := by
  have HI := Aside0.mk inf_at
  go_enter Try.func27, Try.ntmps27
  go_wp2_with (go_at_call 41; (with_reducible refine (HI.out _).mono ?_); rintro e w' ⟨rfl, rfl⟩)
  go_ret
  exact ⟨rfl, rfl⟩
theorem max_law_many (A : Option Addr) (n c : Nat) (w : World) (h : (200 : Int) < n) : Calls Try.prog 12 #[.slice A n c] w fun e w' => e = .returned (.bool true) ∧ w = w' := by
  have HS := Aside0.mk shown_at
  go_enter Try.func12, Try.ntmps12
  go_wp2_with (go_at_call 14; (with_reducible refine (HS.out _).mono ?_); rintro e w' ⟨rfl, rfl⟩)
  go_ret
  exact ⟨rfl, rfl⟩
theorem max_law_none (A : Option Addr) (c : Nat) (w : World) : Calls Try.prog 12 #[.slice A 0 c] w fun e w' => e = .returned (.bool true) ∧ w = w' := by
  have HS := Aside0.mk shown_at
  have HM := Aside0.mk (max_none A c)
  have HI := Aside0.mk isinf_at
  go_enter Try.func12, Try.ntmps12
  go_wp2_with (first
    | (go_at_call 14; (with_reducible refine (HS.out _).mono ?_); rintro e w' ⟨rfl, rfl⟩)
    | (go_at_call 27; (with_reducible refine (HM.out _).mono ?_); rintro e w' ⟨rfl, rfl⟩)
    | (go_at_call 28; (with_reducible refine (HI.out _).mono ?_); rintro e w' ⟨rfl, rfl⟩))
  go_ret
  exact ⟨rfl, rfl⟩
set_option maxHeartbeats 2000000 in
theorem max_law_some (A : Option Addr) (c : Nat) (l : List Nat) (w : World) (hr : Kd.C kf w A l.length l) (hb : ∀ k, l.getD k 0 < 18446744073709551616) (h0 : 0 < l.length) (h1 : l.length ≤ 200) :
    Calls Try.prog 12 #[.slice A l.length c] w fun e w' => e = .returned (.bool true) ∧ w = w' := by
  have HS := Aside0.mk shown_at
  have HM := Aside0.mk (max_at A c l w hr hb h0)
  have HF := Aside0.mk (refmax_at A c l w hr hb h0)
  have HR := Aside0.mk hr
  have HB := Aside0.mk hb
  have hl2 : ¬ (200 : Int) < (l.length : Int) := by omega
  have hl1 : ((l.length : Int) == 0) = false := by
    have : ¬ (l.length : Int) = 0 := by omega
    simpa using this
  obtain ⟨ad, e, _⟩ := at_F hr 0 h0
  subst e
  clear hr hb
  go_enter Try.func12, Try.ntmps12
  go_wp2_with (first
    | (go_at_call 14; (with_reducible refine (HS.out _).mono ?_); rintro e w' ⟨rfl, rfl⟩)
    | (go_at_call 27; (with_reducible refine HM.out.mono ?_); rintro e w' ⟨⟨M, rfl, hM⟩, rfl⟩; have HX := Aside0.mk hM; clear hM))
  go_loopw [4, 5] (fun t i wr => ∃ (k : Nat) (b : Bool), t = .bool b ∧ i = .int .i64 k ∧ Aside0 (k ≤ l.length) ∧ Aside0 (b = true ↔ ∃ j, j < k ∧ key M = key (l.getD j 0)) ∧ w = wr)
    (fun _ i _ => l.length - (intOf i).toNat)
  case atStart => exact ⟨0, false, rfl, rfl, ⟨by omega⟩, ⟨by simp⟩, rfl⟩
  case round =>
    obtain ⟨k, b, rfl, rfl, hk, ht, rfl⟩ := hrel
    by_cases hlt : k < l.length
    · obtain ⟨ad', e, hxk⟩ := at_F HR.out k hlt
      obtain rfl : ad = ad' := by simpa using e
      have hxb := HB.out k
      have OA := order_at (l.getD k 0) M hxb HX.out.1
      have AA := alike_at (l.getD k 0) M
      have hks := Aside0.mk (key_same (l.getD k 0) M hxb HX.out.1)
      have hle := HX.out.2.2 k hlt
      have hc := cmp_cases' (l.getD k 0) M
      have hT : Aside0 (∀ b', (b' = true ↔ (b = true ∨ alike (l.getD k 0) M = true)) → (b' = true ↔ ∃ j, j < k + 1 ∧ key M = key (l.getD j 0))) := ⟨fun b' h => by
        rw [h, ht.out, ← hks.out]
        constructor
        · rintro (⟨j, hj, e⟩ | e)
          · exact ⟨j, by omega, e⟩
          · exact ⟨k, by omega, e.symm⟩
        · rintro ⟨j, hj, e⟩
          by_cases hjk : j = k
          · right; rw [← hjk, e]
          · left; exact ⟨j, by omega, e⟩⟩
      generalize l.getD k 0 = x at hxk OA AA hc hle hT
      clear hxb hks
      generalize alike x M = al at AA hT
      have AA := Aside0.mk AA
      rcases hc with ⟨e1, e2⟩ | ⟨e1, e2⟩ | ⟨e1, e2⟩
      · rw [e1] at OA
        have OA := Aside0.mk OA
        clear e1 e2 hle
        cases b
        · cases al
          · go_wp2_with (first
              | (go_at_call 13; (with_reducible refine (OA.out _).mono ?_); rintro e w' ⟨rfl, rfl⟩)
              | (go_at_call 15; (with_reducible refine (AA.out _).mono ?_); rintro e w' ⟨rfl, rfl⟩))
            refine ⟨⟨k + 1, false, rfl, by go_num, ⟨by omega⟩, ⟨hT.out false (by simp)⟩, trivial⟩, by simp [intOf]; omega⟩
          · go_wp2_with (first
              | (go_at_call 13; (with_reducible refine (OA.out _).mono ?_); rintro e w' ⟨rfl, rfl⟩)
              | (go_at_call 15; (with_reducible refine (AA.out _).mono ?_); rintro e w' ⟨rfl, rfl⟩))
            refine ⟨⟨k + 1, true, rfl, by go_num, ⟨by omega⟩, ⟨hT.out true (by simp)⟩, trivial⟩, by simp [intOf]; omega⟩
        · go_wp2_with (first
            | (go_at_call 13; (with_reducible refine (OA.out _).mono ?_); rintro e w' ⟨rfl, rfl⟩)
            | (go_at_call 15; (with_reducible refine (AA.out _).mono ?_); rintro e w' ⟨rfl, rfl⟩))
          refine ⟨⟨k + 1, true, rfl, by go_num, ⟨by omega⟩, ⟨hT.out true (by simp)⟩, trivial⟩, by simp [intOf]; omega⟩
      · rw [e1] at OA
        have OA := Aside0.mk OA
        clear e1 e2 hle
        cases b
        · cases al
          · go_wp2_with (first
              | (go_at_call 13; (with_reducible refine (OA.out _).mono ?_); rintro e w' ⟨rfl, rfl⟩)
              | (go_at_call 15; (with_reducible refine (AA.out _).mono ?_); rintro e w' ⟨rfl, rfl⟩))
            refine ⟨⟨k + 1, false, rfl, by go_num, ⟨by omega⟩, ⟨hT.out false (by simp)⟩, trivial⟩, by simp [intOf]; omega⟩
          · go_wp2_with (first
              | (go_at_call 13; (with_reducible refine (OA.out _).mono ?_); rintro e w' ⟨rfl, rfl⟩)
              | (go_at_call 15; (with_reducible refine (AA.out _).mono ?_); rintro e w' ⟨rfl, rfl⟩))
            refine ⟨⟨k + 1, true, rfl, by go_num, ⟨by omega⟩, ⟨hT.out true (by simp)⟩, trivial⟩, by simp [intOf]; omega⟩
        · go_wp2_with (first
            | (go_at_call 13; (with_reducible refine (OA.out _).mono ?_); rintro e w' ⟨rfl, rfl⟩)
            | (go_at_call 15; (with_reducible refine (AA.out _).mono ?_); rintro e w' ⟨rfl, rfl⟩))
          refine ⟨⟨k + 1, true, rfl, by go_num, ⟨by omega⟩, ⟨hT.out true (by simp)⟩, trivial⟩, by simp [intOf]; omega⟩
      · exact absurd hle (by omega)
    · obtain rfl : k = l.length := by have := hk.out; omega
      have hb : b = true := ht.out.2 HX.out.2.1
      subst hb
      clear hlt ht hk
      have HQ : Aside0 (∀ M', isMax l l.length M' → alike M M' = true) := ⟨fun M' h => by
        have h2 := HX.out
        obtain ⟨_, ⟨j, hj, e⟩, g⟩ := h2
        obtain ⟨_, ⟨i, hi, e'⟩, g'⟩ := h
        have := g i hi
        have := g' j hj
        exact (key_same M M' HX.out.1 (by assumption)).1 (by omega)⟩
      go_wp2_with (first
        | (go_at_call 29; (with_reducible refine HF.out.mono ?_); rintro e w' ⟨⟨M', rfl, hM'⟩, rfl⟩; have HAL := Aside0.mk (fun w => HQ.out M' hM' ▸ alike_at M M' w); clear hM')
        | (go_at_call 15; (with_reducible refine (HAL.out _).mono ?_); rintro e w' ⟨rfl, rfl⟩))
      go_ret
      exact ⟨rfl, rfl⟩
theorem max_law (A : Option Addr) (c : Nat) (l : List Nat) (w : World) (hr : Kd.C kf w A l.length l) (hb : ∀ a ∈ l, a < 18446744073709551616) :
    Calls Try.prog 12 #[.slice A l.length c] w fun e w' => e = .returned (.bool true) ∧ w = w' := by
  have hb' : ∀ k, l.getD k 0 < 18446744073709551616 := by
    intro k
    rw [List.getD_eq_getElem?_getD]
    rcases Nat.lt_or_ge k l.length with h | h
    · rw [List.getElem?_eq_getElem h]; exact hb _ (List.getElem_mem h)
    · rw [List.getElem?_eq_none h]; decide
  by_cases h1 : 200 < l.length
  · exact max_law_many A l.length c w (by omega)
  · by_cases h0 : l.length = 0
    · rw [h0]; exact max_law_none A c w
    · exact max_law_some A c l w hr hb' (by omega) (by omega)
end Go.Proofs.Ytbgpdofbnifapaa.R
