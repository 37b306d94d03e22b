/- What the laws' walks call, with given outcomes. -/
import Derived.Test.YtkkcnhfbcophiaaDoorKnows
import Derived.Test.YtkkcnhfbcophiaaDoorSelfLaw
namespace Go.Proofs.YtkkcnhfbcophiaaDoor.B
open Go.RowKit Go.Proofs.YtkkcnhfbcophiaaDoorW.PrintWords Go.Proofs.YtkkcnhfbcophiaaDoorW.PrintLast Go.Proofs.YtkkcnhfbcophiaaDoorW.PrintMore Go.Proofs.YtkkcnhfbcophiaaDoor.Band Go.Proofs.YtkkcnhfbcophiaaDoor.Pure
set_option linter.unusedVariables false
set_option linter.unusedSimpArgs false

theorem R_block {α : Type} {d : Kd α} {e base n c : Nat} {ok : Nat → Prop} {w : World} {A : Option Addr} {xs : List α} (h : d.R e w base ok (.slice A n c) xs) {g : Nat} (hg : g < base) : ∀ ad, A = some ad → 0 < n → ad.block ≠ g := by
  rintro ad rfl _
  have hnl := (Kd.R_reads' h).1
  subst hnl
  obtain ⟨_, inner, hown, _⟩ := h
  exact own_blk hown (fun he => by have := own_base hown g he.symm; omega)
theorem C_block {α : Type} {d : Kd α} {n : Nat} {w : World} {A : Option Addr} {xs : List α} (h : d.C w A n xs) (hs : 0 < d.sz) {g : Nat} (hg : w.heap.size ≤ g) : ∀ ad, A = some ad → 0 < n → ad.block ≠ g := by
  rintro ad rfl hn
  have := Kd.C_lt h hn hs
  omega
theorem merge_ok (w0 w : World) (g : Nat) (R R1 : RollS) (A : Option Addr) (c : Nat) (l N : List S31) (he : hearL R l = (R1, true)) (hN : newsL R R1 = N) (hok : OkR R) (hl : ∀ u ∈ l, OkU u) (hr : Kd.C k31 w A l.length l) (hne : ∀ ad, A = some ad → 0 < l.length → ad.block ≠ g) (hT : Aside0 (TabT w)) (hR : RollB w g R) (hg : w0.heap.size ≤ g) (hB : Below w0.heap.size w0 w) :
    Calls Tryd.prog 15 #[.pointer (some ⟨g, 0, none⟩), .slice A l.length c] w fun e w' => ∃ A' c', e = .returned (.tuple #[.slice A' N.length c', .int .i64 0]) ∧ Kd.R k31 31 w' w.heap.size (fun _ => True) (.slice A' N.length c') N ∧ RollB w' g R1 ∧ Below w0.heap.size w0 w' ∧ KeepBut w w' g none := by
  refine (merge_walk w0 w g R A c l hok hl hr hne hT hR hg hB).mono ?_
  rintro e w' ⟨v, rfl, ho, hR', hB', hK'⟩
  have e1 : mergeN R l = N := by unfold mergeN; rw [he, if_pos rfl]; exact hN
  rw [e1] at ho
  rw [he] at hR' ⊢
  rw [if_pos rfl]
  obtain ⟨A', c', rfl⟩ := Kd.R_slice ho
  exact ⟨A', c', rfl, ho, hR', hB', hK'⟩
theorem merge_last (w0 w : World) (g : Nat) (R R1 : RollS) (A : Option Addr) (c : Nat) (l : List S31) (he : hearL R l = (R1, false)) (hok : OkR R) (hl : ∀ u ∈ l, OkU u) (hr : Kd.C k31 w A l.length l) (hne : ∀ ad, A = some ad → 0 < l.length → ad.block ≠ g) (hT : Aside0 (TabT w)) (hR : RollB w g R) (hg : w0.heap.size ≤ g) (hB : Below w0.heap.size w0 w) :
    Calls Tryd.prog 15 #[.pointer (some ⟨g, 0, none⟩), .slice A l.length c] w fun e w' => ∃ A' c', e = .returned (.tuple #[.slice A' 0 c', .int .i64 60]) ∧ RollB w' g R1 ∧ Below w0.heap.size w0 w' ∧ KeepBut w w' g none := by
  refine (merge_walk w0 w g R A c l hok hl hr hne hT hR hg hB).mono ?_
  rintro e w' ⟨v, rfl, ho, hR', hB', hK'⟩
  have e1 : mergeN R l = [] := by unfold mergeN; rw [he, if_neg (show ¬ (R1, false).2 = true from by simp)]
  rw [e1] at ho
  rw [he] at hR' ⊢
  rw [if_neg (show ¬ (R1, false).2 = true from by simp)]
  obtain ⟨A', c', rfl⟩ := Kd.R_slice ho
  exact ⟨A', c', rfl, hR', hB', hK'⟩
theorem merge_any (w0 w : World) (g : Nat) (R R1 : RollS) (b : Bool) (A : Option Addr) (c : Nat) (l : List S31) (he : hearL R l = (R1, b)) (hok : OkR R) (hl : ∀ u ∈ l, OkU u) (hr : Kd.C k31 w A l.length l) (hne : ∀ ad, A = some ad → 0 < l.length → ad.block ≠ g) (hT : Aside0 (TabT w)) (hR : RollB w g R) (hg : w0.heap.size ≤ g) (hB : Below w0.heap.size w0 w) :
    Calls Tryd.prog 15 #[.pointer (some ⟨g, 0, none⟩), .slice A l.length c] w fun e w' => ∃ A' n' c' x, e = .returned (.tuple #[.slice A' n' c', .int .i64 x]) ∧ RollB w' g R1 ∧ Below w0.heap.size w0 w' ∧ KeepBut w w' g none := by
  refine (merge_walk w0 w g R A c l hok hl hr hne hT hR hg hB).mono ?_
  rintro e w' ⟨v, rfl, ho, hR', hB', hK'⟩
  rw [he] at hR'
  obtain ⟨A', c', rfl⟩ := Kd.R_slice ho
  exact ⟨A', _, c', _, rfl, hR', hB', hK'⟩
theorem all_is (w : World) (g : Nat) (R : RollS) (l : List S31) (he : allL R = l) (hok : OkR R) (hT : Aside0 (TabT w)) (hR : RollB w g R) :
    Calls Tryd.prog 16 #[.pointer (some ⟨g, 0, none⟩)] w fun e w' => ∃ A c, e = .returned (.slice A l.length c) ∧ l.length ≤ c ∧ Kd.R k31 31 w' w.heap.size (fun _ => True) (.slice A l.length c) l ∧ Below w.heap.size w w' := by
  refine (all_walk w g R hok.has hT hR).mono ?_
  rintro e w' ⟨v, rfl, ho, hB⟩
  rw [he] at ho
  obtain ⟨A, c, rfl⟩ := Kd.R_slice ho
  exact ⟨A, c, rfl, (Kd.R_reads' ho).2.1, ho, hB⟩
theorem same_l (l : List S31) (h : l.length ≤ 9223372036854775807) : ∀ (m j : Nat), j + m = l.length → conventicleref07_Same.l0 (m + 1) l l (j : Int) = some true
  | 0, j, e => by
    unfold conventicleref07_Same.l0
    rw [if_neg (by omega)]
  | m + 1, j, e => by
    unfold conventicleref07_Same.l0
    rw [if_pos (by omega), if_pos (by omega), if_pos (by omega), if_neg (by simp)]
    have e2 : wrap64 ((j : Int) + 1) = ((j + 1 : Nat) : Int) := by rw [show wrap64 ((j : Int) + 1) = (j : Int) + 1 from by unfold wrap64; omega]; omega
    rw [e2]
    exact same_l l h m (j + 1) (by omega)
theorem same_self (l : List S31) (h : l.length ≤ 9223372036854775807) : conventicleref07_Same.f (l.length + 1) l l = some true := by
  unfold conventicleref07_Same.f
  rw [if_pos rfl]
  exact same_l l h l.length 0 (by omega)
/-- Same, of rows that hold the same -/
theorem same_is (w : World) (A B : Option Addr) (c d : Nat) (l : List S31) (h0 : Kd.C k31 w A l.length l) (hc : l.length ≤ c) (h1 : Kd.C k31 w B l.length l) (hd : l.length ≤ d) :
    Calls Tryd.prog 17 #[.slice A l.length c, .slice B l.length d] w fun e w' => e = .returned (.bool true) ∧ Below w.heap.size w w' := by
  refine (conventicleref07_Same.calls (l.length + 1) A c l B d l true w h0 hc h1 hd (same_self l h0.2.1)).mono ?_
  rintro e w' ⟨rfl, ⟨m, rfl⟩⟩
  exact ⟨rfl, pw_below_drewN (Below.refl _ _) m⟩
theorem new_lit (w : World) (n : Nat) (x : Int) (hx : x = n) (hn : n < 64) (R : RollS) (hR : newR n = R) :
    Calls Tryd.prog 11 #[.int .i64 x] w fun e w' => ∃ g, e = .returned (.pointer (some ⟨g, 0, none⟩)) ∧ RollB w' g R ∧ w.heap.size ≤ g ∧ Below w.heap.size w w' := by
  subst hx hR
  exact new_any w n hn
theorem live_is (w : World) (g : Nat) (R : RollS) (v : Nat) (he : liveN (allL R) = v) (hb : R.has < 18446744073709551616) (hT : Aside0 (TabT w)) (hR : RollB w g R) :
    Calls Tryd.prog 18 #[.pointer (some ⟨g, 0, none⟩)] w fun e w' => e = .returned (.int .u64 v) ∧ Below w.heap.size w w' := by
  subst he
  exact live_walk w g R hb hT hR
theorem allL_len (R : RollS) : (allL R).length ≤ 64 := by unfold allL; rw [List.length_map]; exact bandL_length _
/-- a row of one's own across a call that turns the roll alone -/
theorem R_over {w w1 : World} {base base' g : Nat} {v : Value} {xs : List S31} (h : Kd.R k31 31 w base (fun _ => True) v xs) (hb : base' ≤ base) (hg : g < base) (hk : KeepBut w w1 g none) : Kd.R k31 31 w1 base' (fun _ => True) v xs :=
  Kd.R_lower (Kd.R_mono (Kd.R_keep (Kd.R_mono (ok' := fun k => base ≤ k) (Kd.R_bound h) (fun k hk => hk.2.1)) hk (fun k hk => by omega)) (fun _ _ => trivial)) hb
end Go.Proofs.YtkkcnhfbcophiaaDoor.B
