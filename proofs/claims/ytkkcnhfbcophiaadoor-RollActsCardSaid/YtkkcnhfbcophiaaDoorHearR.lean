/- (*Roll).Hear as one function of the roll and of what is heard. -/
import Derived.Test.YtkkcnhfbcophiaaDoorLive
import Derived.Test.YtkkcnhfbcophiaaDoorPlain
namespace Go.Proofs.YtkkcnhfbcophiaaDoor.B
open Go.RowKit Go.Proofs.YtkkcnhfbcophiaaDoorW.PrintWords Go.Proofs.YtkkcnhfbcophiaaDoorW.PrintLast Go.Proofs.YtkkcnhfbcophiaaDoorW.PrintMore Go.Proofs.YtkkcnhfbcophiaaDoor.Band Go.Proofs.YtkkcnhfbcophiaaDoor.Pure
set_option linter.unusedVariables false

abbrev mayS (u : S31) : Bool := may u.f0 u.f2
abbrev newerS (a b : S31) : Bool := newer a.f1 a.f2 b.f1 b.f2
/-- u is put -/
def RollS.put (R : RollS) (u : S31) : RollS := { R.setK u.f0.toNat u with has := R.has ||| bitN u.f0 }
/-- u is heard: the roll behind it, is it news, the error -/
def hearR (R : RollS) (u : S31) : RollS × Bool × Int :=
  if mayS u = true then
    if u.f0 = R.me then
      let q := refute R.me (R.K R.me.toNat).f1 u.f0 u.f1 u.f2
      if q.2.2 = 0 then (if q.2.1 = true then (R.put ⟨R.me, q.1, 0⟩, false, 0) else (R, false, 70)) else (R, false, q.2.2)
    else if hasN R.has u.f0 = true ∧ newerS u (R.K u.f0.toNat) = false then (R, false, 70)
    else (R.put u, true, 0)
  else (R, false, 1)
/-- a roll as New and Hear leave it -/
structure OkR (R : RollS) : Prop where
  me0 : 0 ≤ R.me
  me1 : R.me < 64
  has : R.has < 18446744073709551616
  inc : ∀ n, 0 ≤ (R.K n).f1 ∧ (R.K n).f1 ≤ 18446744073709551615
def OkU (u : S31) : Prop := 0 ≤ u.f1 ∧ u.f1 ≤ 18446744073709551615
theorem OkR.put {R : RollS} (h : OkR R) (u : S31) (hu : OkU u) : OkR (R.put u) := by
  refine ⟨h.me0, h.me1, or_lt _ _ h.has (bitN_lt _), fun n => ?_⟩
  unfold RollS.put RollS.setK
  dsimp only
  split
  · exact hu
  · exact h.inc n
theorem refute_inc (me inc n i s : Int) (h : 0 ≤ inc ∧ inc ≤ 18446744073709551615) (hi : 0 ≤ i ∧ i ≤ 18446744073709551615) : 0 ≤ (refute me inc n i s).1 ∧ (refute me inc n i s).1 ≤ 18446744073709551615 := by
  unfold refute
  split
  · split
    · exact h
    · constructor
      · show 0 ≤ i + 1; omega
      · show i + 1 ≤ _; omega
  · exact h
theorem OkR.hear {R : RollS} (h : OkR R) (u : S31) (hu : OkU u) : OkR (hearR R u).1 := by
  unfold hearR
  split
  · split
    · dsimp only
      split
      · split
        · exact h.put _ (refute_inc _ _ _ _ _ (h.inc _) hu)
        · exact h
      · exact h
    · split
      · exact h
      · exact h.put u hu
  · exact h
theorem may_node {u : S31} (h : mayS u = true) : ∃ n : Nat, u.f0 = n ∧ n < 64 := by
  have := may_iff.1 h
  exact ⟨u.f0.toNat, by omega, by omega⟩
theorem hear_any (w0 w : World) (g : Nat) (R : RollS) (u : S31) (hok : OkR R) (hu : OkU u) (hR : RollB w g R) (hg : w0.heap.size ≤ g) (hB : Below w0.heap.size w0 w) :
    Calls Tryd.prog 12 #[.pointer (some ⟨g, 0, none⟩), .agg #[.int .i64 u.f0, .int .u64 u.f1, .int .i64 u.f2]] w fun e w' =>
      e = .returned (.tuple #[.bool (hearR R u).2.1, .int .i64 (hearR R u).2.2]) ∧ RollB w' g (hearR R u).1 ∧ Below w0.heap.size w0 w' ∧ KeepBut w w' g none := by
  obtain ⟨f0, f1, f2⟩ := u
  cases hm : mayS ⟨f0, f1, f2⟩
  · have hM : rank_May.f f0 f1 f2 = some false := by rw [may_run]; exact congrArg some hm
    have e : hearR R ⟨f0, f1, f2⟩ = (R, false, 1) := by unfold hearR; rw [if_neg (by rw [hm]; decide)]
    rw [e]
    exact hear_bad w0 w g R f0 f1 f2 hM hR hg hB
  · have hM : rank_May.f f0 f1 f2 = some true := by rw [may_run]; exact congrArg some hm
    obtain ⟨n, hn, hn64⟩ := may_node hm
    obtain rfl : f0 = n := hn
    have hw : band_With.f R.has (n : Int) = some (((R.has ||| bitN n : Nat) : Int)) := with_run R.has hok.has n
    by_cases hme : (n : Int) = R.me
    · have hF := refute_run 0 R.me (R.K R.me.toNat).f1 n f1 f2 hu.1 hu.2
      have e : hearR R ⟨n, f1, f2⟩ = (if (refute R.me (R.K R.me.toNat).f1 n f1 f2).2.2 = 0 then (if (refute R.me (R.K R.me.toNat).f1 n f1 f2).2.1 = true then (R.put ⟨R.me, (refute R.me (R.K R.me.toNat).f1 n f1 f2).1, 0⟩, false, 0) else (R, false, 70)) else (R, false, (refute R.me (R.K R.me.toNat).f1 n f1 f2).2.2)) := by
        unfold hearR; rw [if_pos hm, if_pos hme]
      rw [e]
      rw [← hme, Int.toNat_natCast] at hF ⊢
      generalize refute (n : Int) (R.K n).f1 n f1 f2 = q at hF ⊢
      obtain ⟨inc, is_, er⟩ := q
      dsimp only
      by_cases her : er = 0
      · rw [if_pos her]
        subst her
        cases is_
        · rw [if_neg (by decide)]
          exact hear_same w0 w g R n f1 f2 hme.symm hn64 4 inc hF hM hR hg hB
        · rw [if_pos rfl]
          exact hear_refute w0 w g R n f1 f2 hme.symm hn64 4 inc _ hw hF hM hR hg hB
      · rw [if_neg her]
        exact hear_last w0 w g R n f1 f2 hme.symm hn64 4 inc is_ er her hF hM hR hg hB
    · have hH := has_run R.has hok.has n
      have hN := newer_run 0 n f1 f2 (R.K n).f0 (R.K n).f1 (R.K n).f2
      cases hh : hasN R.has n
      · have e : hearR R ⟨n, f1, f2⟩ = (R.put ⟨n, f1, f2⟩, true, 0) := by
          unfold hearR; rw [if_pos hm, if_neg hme, if_neg (by rintro ⟨h1, -⟩; rw [hh] at h1; cases h1)]
        rw [e]
        rw [hh] at hH
        exact hear_first w0 w g R n f1 f2 (Ne.symm hme) hn64 _ hw hH hM hR hg hB
      · rw [hh] at hH
        cases hw2 : newer f1 f2 (R.K n).f1 (R.K n).f2
        · have e : hearR R ⟨n, f1, f2⟩ = (R, false, 70) := by
            unfold hearR; rw [if_pos hm, if_neg hme, if_pos ⟨hh, by rw [Int.toNat_natCast]; exact hw2⟩]
          rw [e]
          rw [hw2] at hN
          exact hear_old w0 w g R n f1 f2 (Ne.symm hme) hn64 3 hN hH hM hR hg hB
        · have e : hearR R ⟨n, f1, f2⟩ = (R.put ⟨n, f1, f2⟩, true, 0) := by
            unfold hearR; rw [if_pos hm, if_neg hme, if_neg (by rintro ⟨-, h1⟩; rw [Int.toNat_natCast] at h1; dsimp only [newerS] at h1; rw [hw2] at h1; cases h1)]
          rw [e]
          rw [hw2] at hN
          exact hear_newer w0 w g R n f1 f2 (Ne.symm hme) hn64 3 hN _ hw hH hM hR hg hB
/-- roll.New -/
def newR (n : Int) : RollS := (roll0 n).put ⟨n, 0, 0⟩
theorem OkR.new (n : Int) (h0 : 0 ≤ n) (h1 : n < 64) : OkR (newR n) := by
  unfold newR
  exact OkR.put ⟨h0, h1, (by decide : (0 : Nat) < 18446744073709551616), fun _ => ⟨(by decide : (0 : Int) ≤ 0), (by decide : (0 : Int) ≤ 18446744073709551615)⟩⟩ _ ⟨(by decide : (0 : Int) ≤ 0), (by decide : (0 : Int) ≤ 18446744073709551615)⟩
theorem new_any (w : World) (n : Nat) (hn : n < 64) :
    Calls Tryd.prog 11 #[.int .i64 n] w fun e w' => ∃ g, e = .returned (.pointer (some ⟨g, 0, none⟩)) ∧ RollB w' g (newR n) ∧ w.heap.size ≤ g ∧ Below w.heap.size w w' :=
  new_yes w n hn (0 ||| bitN n) (with_run 0 (by decide) n)
theorem mine_any (w : World) (g : Nat) (R : RollS) (hok : OkR R) (hR : RollB w g R) :
    Calls Tryd.prog 13 #[.pointer (some ⟨g, 0, none⟩)] w fun e w' => e = .returned (.agg #[.int .i64 (R.K R.me.toNat).f0, .int .u64 (R.K R.me.toNat).f1, .int .i64 (R.K R.me.toNat).f2]) ∧ Below w.heap.size w w' :=
  mine_walk w g R R.me.toNat (by have := hok.me0; omega) (by have := hok.me0; have := hok.me1; omega) hR
def getR (R : RollS) (n : Int) : S31 × Bool := if hasN R.has n = true then (R.K n.toNat, true) else (z31, false)
theorem get_any (w : World) (g : Nat) (R : RollS) (n : Int) (hok : OkR R) (hR : RollB w g R) :
    Calls Tryd.prog 14 #[.pointer (some ⟨g, 0, none⟩), .int .i64 n] w fun e w' => e = .returned (.tuple #[.agg #[.int .i64 (getR R n).1.f0, .int .u64 (getR R n).1.f1, .int .i64 (getR R n).1.f2], .bool (getR R n).2]) ∧ Below w.heap.size w w' := by
  have hH := has_run R.has hok.has n
  unfold getR
  cases hh : hasN R.has n
  · rw [if_neg (by decide)]
    rw [hh] at hH
    exact get_no w g R n hH hR
  · rw [if_pos rfl]
    rw [hh] at hH
    have : 0 ≤ n ∧ n ≤ 63 := by
      unfold hasN at hh
      rw [Bool.and_eq_true] at hh
      exact of_decide_eq_true hh.1
    obtain ⟨m, rfl⟩ : ∃ m : Nat, n = m := ⟨n.toNat, by omega⟩
    exact get_yes w g R m (by omega) hH hR
end Go.Proofs.YtkkcnhfbcophiaaDoor.B
