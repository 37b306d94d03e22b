/- By hand: what each of both readers says, and where it stands then: the same. -/
import Derived.Test.YtaegblhfhgiapaaReadRef
import Derived.Test.YtaegblhfhgiapaaBack
namespace Go.Proofs.Ytaegblhfhgiapaa.R
open Go.RowKit Go.Proofs.YtaegblhfhgiapaaW.PrintWords Go.Proofs.YtaegblhfhgiapaaW.PrintLast Go.Proofs.YtaegblhfhgiapaaW.PrintMore Go.Proofs.Ytaegblhfhgiapaa.B

/-- what our reader says -/
def Ours (f : Nat) (w0 : World) (s : ByteArray) (p : Int) (more : List Value) (r : Value) (q : Int) : Prop :=
  ∀ g w, IsS63 w0 w g s p → Below w0.heap.size w0 w → Calls Try.prog f (#[.pointer (some ⟨g, 0, none⟩)] ++ more.toArray) w fun e w' => e = .returned r ∧ IsS63 w0 w' g s q ∧ Below w0.heap.size w0 w' ∧ KeepBut w w' g none
/-- what the document's says -/
def Refs (f : Nat) (w0 : World) (s : ByteArray) (p : Int) (more : List Value) (r : Value) (q : Int) : Prop :=
  ∀ g w, IsS52 w0 w g s p → Below w0.heap.size w0 w → Calls Try.prog f (#[.pointer (some ⟨g, 0, none⟩)] ++ more.toArray) w fun e w' => e = .returned r ∧ IsS52 w0 w' g s q ∧ Below w0.heap.size w0 w' ∧ KeepBut w w' g none
/-- both, of one number -/
theorem both_number (s : ByteArray) (p : Nat) (W : Int) (hs : s.size < 4611686018427387904) (hp : p ≤ s.size) :
    ∃ (k : Nat) (v er : Int) (q : Nat), (octet_Reader_Number.f k s p W = some (v, er, s, (q : Int)) ∧ conventicleref01_Reader_Number.f k s p W = some (v, er, s, (q : Int)) ∧ q ≤ s.size) ∧ 0 ≤ v ∧ (W ≤ 8 → v < 18446744073709551616) ∧ (er = 0 ∨ (v = 0 ∧ ¬ er = 0)) := by
  by_cases h : W < 1 ∨ 8 < W
  · exact ⟨1, 0, 1, p, ⟨num_arg s p W h, refrd_arg s p W h, hp⟩, by omega, by omega, .inr ⟨rfl, by decide⟩⟩
  · obtain ⟨W, rfl⟩ := Int.eq_ofNat_of_zero_le (show 0 ≤ W by omega)
    by_cases hl : p + W ≤ s.size
    · have h1 := num_ok s p W (by omega) (by omega) hs hl
      have h2 := refrd_ok s p W (by omega) (by omega) hs hl
      have hr := rdv_range s W p
      have hk : (256 : Int) ^ W ≤ 18446744073709551616 := by
        have hk : W = 1 ∨ W = 2 ∨ W = 3 ∨ W = 4 ∨ W = 5 ∨ W = 6 ∨ W = 7 ∨ W = 8 := by omega
        rcases hk with rfl | rfl | rfl | rfl | rfl | rfl | rfl | rfl <;> decide
      exact ⟨W + 2, rdv s p W, 0, p + W, ⟨by rw [h1, Int.natCast_add], by rw [h2, Int.natCast_add], hl⟩, hr.1, fun _ => by omega, .inl rfl⟩
    · exact ⟨W + 2, 0, 10, p, ⟨num_short s p W (by omega) (by omega) hp (by omega), refrd_short s p W (by omega) (by omega) hp (by omega), hp⟩, by omega, by omega, .inr ⟨rfl, by decide⟩⟩
theorem number_both (w0 : World) (s : ByteArray) (p : Nat) (W : Int) (hs : s.size < 4611686018427387904) (hp : p ≤ s.size) :
    ∃ v er, ∃ q : Nat, Ours 15 w0 s p [.int .i64 W] (.tuple #[.int .u64 v, .int .i64 er]) q ∧ Refs 22 w0 s p [.int .i64 W] (.tuple #[.int .u64 v, .int .i64 er]) q ∧ q ≤ s.size := by
  obtain ⟨k, v, er, q, ⟨h1, h2, h3⟩, _⟩ := both_number s p W hs hp
  exact ⟨v, er, q, fun g w hI hB => octet_Reader_Number.calls k g s p W v er s q w0 w hI hB h1, fun g w hI hB => conventicleref01_Reader_Number.calls k g s p W v er s q w0 w hI hB h2, h3⟩
theorem left_both (w0 : World) (s : ByteArray) (p : Nat) (hs : s.size < 4611686018427387904) (hp : p ≤ s.size) :
    Ours 16 w0 s p [] (.int .i64 ((s.size : Int) - p)) p ∧ Refs 26 w0 s p [] (.int .i64 ((s.size : Int) - p)) p := by
  have hw : wrap64 ((s.size : Int) - p) = (s.size : Int) - p := by unfold wrap64; omega
  exact ⟨fun g w hI hB => octet_Reader_Left.calls g s p _ s p w0 w hI hB (by unfold octet_Reader_Left.f; rw [hw]), fun g w hI hB => conventicleref01_Reader_Left.calls g s p _ s p w0 w hI hB (by unfold conventicleref01_Reader_Left.f; rw [hw])⟩
theorem end_both (w0 : World) (s : ByteArray) (p : Nat) : ∃ er, Ours 27 w0 s p [] (.int .i64 er) p ∧ Refs 28 w0 s p [] (.int .i64 er) p := by
  have h : ∃ er, octet_Reader_End.f s p = some (er, s, (p : Int)) ∧ conventicleref01_Reader_End.f s p = some (er, s, (p : Int)) := by
    unfold octet_Reader_End.f conventicleref01_Reader_End.f octet_Reader_Left.f conventicleref01_Reader_Left.f
    rw [Option.bind_some]
    dsimp only
    by_cases hc : wrap64 ((s.size : Int) - p) > 0
    · rw [if_pos hc]; exact ⟨_, rfl, rfl⟩
    · rw [if_neg hc]; exact ⟨_, rfl, rfl⟩
  obtain ⟨er, h1, h2⟩ := h
  exact ⟨er, fun g w hI hB => octet_Reader_End.calls g s p _ s p w0 w hI hB h1, fun g w hI hB => conventicleref01_Reader_End.calls g s p _ s p w0 w hI hB h2⟩
theorem float_at (n : Int) (w : World) : Calls Try.prog 35 #[.int .u64 n] w fun e w' => e = .returned (.float .f64 (rbits n.toNat).toNat) ∧ w = w' := by
  have h := ord_self n.toNat
  have HF1 := frombits_run 9221120237041090561
  have HF2 := frombits_run n
  unfold rbits
  cases hx : Flt.nan n.toNat
  · rw [hx] at h
    simp only [Bool.false_eq_true, if_false, Int.toNat_natCast]
    generalize n.toNat = x at h HF2 ⊢
    go_enter Try.func35, Try.ntmps35
    go_wp2
    go_ret
    exact ⟨rfl, rfl⟩
  · rw [hx] at h
    simp only [if_true]
    generalize n.toNat = x at h HF2 ⊢
    go_enter Try.func35, Try.ntmps35
    go_wp2
    go_ret
    exact ⟨rfl, rfl⟩
theorem real_ours (w0 : World) (s : ByteArray) (p q n er : Int) (k : Nat) (hn : octet_Reader_Number.f k s p 8 = some (n, er, s, q)) :
    Ours 23 w0 s p [] (.tuple #[.float .f64 (rbits n.toNat).toNat, .int .i64 er]) q := by
  intro g w hI hB
  show Calls Try.prog 23 #[.pointer (some ⟨g, 0, none⟩)] w _
  have HN := Aside0.mk (octet_Reader_Number.calls k g s p 8 _ _ _ _ w0 w hI hB hn)
  have HF1 := frombits_run 9221120237041090561
  have HF2 := frombits_run n
  have HI := Aside0.mk (isnan_at n.toNat)
  clear hI hB hn
  unfold rbits
  cases hx : Flt.nan n.toNat
  · rw [hx] at HI
    simp only [Bool.false_eq_true, if_false, Int.toNat_natCast]
    generalize n.toNat = x at HI HF2 ⊢
    clear hx
    go_enter Try.func23, Try.ntmps23
    go_wp2_with (first
      | (go_at_call 15; (with_reducible refine HN.out.mono ?_); rintro e w1 ⟨rfl, hI, hb, hk⟩; have I := Aside0.mk hI; have B := Aside0.mk hb; have KK := Aside0.mk hk; clear hI hb hk)
      | (go_at_call 31; (with_reducible refine (HI.out _).mono ?_); rintro e w2 ⟨rfl, rfl⟩))
    go_ret2
    exact ⟨rfl, I.out, B.out, KK.out⟩
  · rw [hx] at HI
    simp only [if_true]
    generalize n.toNat = x at HI HF2 ⊢
    clear hx
    go_enter Try.func23, Try.ntmps23
    go_wp2_with (first
      | (go_at_call 15; (with_reducible refine HN.out.mono ?_); rintro e w1 ⟨rfl, hI, hb, hk⟩; have I := Aside0.mk hI; have B := Aside0.mk hb; have KK := Aside0.mk hk; clear hI hb hk)
      | (go_at_call 31; (with_reducible refine (HI.out _).mono ?_); rintro e w2 ⟨rfl, rfl⟩))
    go_ret2
    exact ⟨rfl, I.out, B.out, KK.out⟩
theorem real_refs (w0 : World) (s : ByteArray) (p q n er : Int) (k : Nat) (hn : conventicleref01_Reader_Number.f k s p 8 = some (n, er, s, q)) (he : er = 0 ∨ (n = 0 ∧ ¬ er = 0)) :
    Refs 24 w0 s p [] (.tuple #[.float .f64 (rbits n.toNat).toNat, .int .i64 er]) q := by
  intro g w hI hB
  show Calls Try.prog 24 #[.pointer (some ⟨g, 0, none⟩)] w _
  have HN := Aside0.mk (conventicleref01_Reader_Number.calls k g s p 8 _ _ _ _ w0 w hI hB hn)
  have HF := Aside0.mk (float_at n)
  clear hI hB hn
  rcases he with rfl | ⟨rfl, he⟩
  · generalize (rbits n.toNat).toNat = y at HF ⊢
    go_enter Try.func24, Try.ntmps24
    go_wp2_with (first
      | (go_at_call 22; (with_reducible refine HN.out.mono ?_); rintro e w1 ⟨rfl, hI, hb, hk⟩; have I := Aside0.mk hI; have B := Aside0.mk hb; have KK := Aside0.mk hk; clear hI hb hk)
      | (go_at_call 35; (with_reducible refine (HF.out _).mono ?_); rintro e w2 ⟨rfl, rfl⟩))
    go_ret2
    exact ⟨rfl, I.out, B.out, KK.out⟩
  · have e0 : (rbits (0 : Int).toNat).toNat = 0 := by decide
    rw [e0]
    have he' : (er != 0) = true := by simpa using he
    clear HF e0 he
    go_enter Try.func24, Try.ntmps24
    go_wp2_with (first
      | (go_at_call 22; (with_reducible refine HN.out.mono ?_); rintro e w1 ⟨rfl, hI, hb, hk⟩; have I := Aside0.mk hI; have B := Aside0.mk hb; have KK := Aside0.mk hk; clear hI hb hk))
    go_ret2
    exact ⟨rfl, I.out, B.out, KK.out⟩
theorem real_both (w0 : World) (s : ByteArray) (p : Nat) (hs : s.size < 4611686018427387904) (hp : p ≤ s.size) :
    ∃ x er, ∃ q : Nat, Ours 23 w0 s p [] (.tuple #[.float .f64 x, .int .i64 er]) q ∧ Refs 24 w0 s p [] (.tuple #[.float .f64 x, .int .i64 er]) q ∧ q ≤ s.size := by
  obtain ⟨k, v, er, q, ⟨h1, h2, h3⟩, _, _, he⟩ := both_number s p 8 hs hp
  exact ⟨_, er, q, real_ours w0 s p q v er k h1, real_refs w0 s p q v er k h2 he, h3⟩
theorem text_both (w0 : World) (s : ByteArray) (p : Nat) (most : Int) (hs : s.size < 4611686018427387904) (hp : p ≤ s.size) :
    ∃ r er, ∃ q : Nat, Ours 17 w0 s p [.int .i64 most] (.tuple #[.string r, .int .i64 er]) q ∧ Refs 25 w0 s p [.int .i64 most] (.tuple #[.string r, .int .i64 er]) q ∧ q ≤ s.size := by
  have go : ∀ k r er q, conventicleref01_Reader_Text.f k s p most = some (r, er, s, q) → Refs 25 w0 s p [.int .i64 most] (.tuple #[.string r, .int .i64 er]) q :=
    fun k r er q h g w hI hB => conventicleref01_Reader_Text.calls k g s p most r er s q w0 w hI hB h
  by_cases h1 : s.size < p + 2
  · refine ⟨⟨#[]⟩, 10, p, fun g w hI hB => text_short w0 w g s p most hI hB hp h1, go 4 _ _ _ ?_, hp⟩
    unfold conventicleref01_Reader_Text.f
    have e : conventicleref01_Reader_Number.f 4 s p 2 = some (0, 10, s, (p : Int)) := refrd_short s p 2 (by decide) (by decide) hp h1
    rw [e, Option.bind_some]
    dsimp only
    rw [if_neg (by decide)]
  · have e : conventicleref01_Reader_Number.f 4 s p 2 = some (rdv s p 2, 0, s, (p : Int) + 2) := refrd_ok s p 2 (by decide) (by decide) hs (by omega)
    have hr := rdv_range s 2 p
    have hr1 : rdv s p 2 < 65536 := hr.2
    have hw : wrap64 (rdv s p 2) = rdv s p 2 := by unfold wrap64; omega
    have hw1 : wrap64 ((s.size : Int) - ((p : Int) + 2)) = (s.size : Int) - ((p : Int) + 2) := by unfold wrap64; omega
    have hw2 : wrap64 ((p : Int) + 2 + rdv s p 2) = (p : Int) + 2 + rdv s p 2 := by unfold wrap64; omega
    by_cases h2 : most < rdv s p 2
    · refine ⟨⟨#[]⟩, 12, p, fun g w hI hB => text_wide w0 w g s p most hI hB hs (by omega) h2, go 4 _ _ _ ?_, hp⟩
      unfold conventicleref01_Reader_Text.f
      rw [e, Option.bind_some]
      dsimp only
      rw [if_pos rfl, hw, if_pos h2]
    · by_cases h3 : (s.size : Int) - ((p : Int) + 2) < rdv s p 2
      · refine ⟨⟨#[]⟩, 10, p, fun g w hI hB => text_few w0 w g s p most hI hB hs (by omega) h2 h3, go 4 _ _ _ ?_, hp⟩
        unfold conventicleref01_Reader_Text.f conventicleref01_Reader_Left.f
        rw [e, Option.bind_some]
        dsimp only
        rw [if_pos rfl, hw, if_neg (by omega), Option.bind_some]
        dsimp only
        rw [hw1, if_pos h3]
      · obtain ⟨q, hq⟩ := Int.eq_ofNat_of_zero_le (show 0 ≤ (p : Int) + 2 + rdv s p 2 by omega)
        refine ⟨_, 0, q, fun g w hI hB => hq ▸ text_ok w0 w g s p most hI hB hs (by omega) h2 h3, go 4 _ _ _ ?_, by omega⟩
        unfold conventicleref01_Reader_Text.f conventicleref01_Reader_Left.f
        rw [e, Option.bind_some]
        dsimp only
        rw [if_pos rfl, hw, if_neg (by omega), Option.bind_some]
        dsimp only
        rw [hw1, if_neg h3, if_pos (by omega), hw2, if_pos (by omega), if_pos (by omega), hq]
end Go.Proofs.Ytaegblhfhgiapaa.R
