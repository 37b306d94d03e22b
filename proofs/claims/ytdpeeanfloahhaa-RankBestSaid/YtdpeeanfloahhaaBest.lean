/- By hand: rank.Best (a closure over the best one) and slices.IndexFunc, as the printed functions tell their callees. -/
import Derived.Test.YtdpeeanfloahhaaPlain
namespace Go.Proofs.Ytdpeeanfloahhaa.B
open Go.RowKit Go.Proofs.YtdpeeanfloahhaaW.PrintWords Go.Proofs.YtdpeeanfloahhaaW.PrintLast Go.Proofs.YtdpeeanfloahhaaW.PrintMore

def mayS (u : S24) : Bool := Pure.may u.f0 u.f2
def newerS (a b : S24) : Bool := Pure.newer a.f1 a.f2 b.f1 b.f2
/-- the best one of two -/
def bstep (b : S24 × Bool) (u : S24) : S24 × Bool := if mayS u = true ∧ (b.2 = false ∨ u.f0 = b.1.f0 ∧ newerS u b.1 = true) then (u, true) else b
def bestS (l : List S24) : S24 × Bool := l.foldl bstep (z24, false)
def rank_Best.f (l0 : List S24) : Option (Int × Int × Int × Bool) := some ((bestS l0).1.f0, (bestS l0).1.f1, (bestS l0).1.f2, (bestS l0).2)
abbrev cells24 (b : S24) : Array Value := #[.int .i64 b.f0, .int .u64 b.f1, .int .i64 b.f2]
/-- the first one that may be -/
def firstIs (l : List S24) (r : Int) : Prop := (r = -1 ∧ ∀ j < l.length, mayS (l.getD j z24) = false) ∨ ∃ i : Nat, i < l.length ∧ r = (i : Int) ∧ mayS (l.getD i z24) = true ∧ ∀ j < i, mayS (l.getD j z24) = false

theorem may_at (p : S24) (b : Bool) (hb : mayS p = b) (w : World) : Calls Try.prog 20 #[.agg (cells24 p)] w fun e w' => e = .returned (.bool b) ∧ Below w.heap.size w w' :=
  rank_May.calls p.f0 p.f1 p.f2 b w (by rw [Pure.may_run, ← hb]; rfl)
theorem newer_at (p q : S24) (b : Bool) (hb : newerS p q = b) (w : World) : Calls Try.prog 9 #[.agg (cells24 p), .agg (cells24 q)] w fun e w' => e = .returned (.bool b) ∧ Below w.heap.size w w' :=
  rank_Newer.calls 3 p.f0 p.f1 p.f2 q.f0 q.f1 q.f2 b w (by rw [Pure.newer_run 0, ← hb]; rfl)

set_option maxHeartbeats 1000000 in
theorem index_any (A0 : Option Addr) (c0 : Nat) (l0 : List S24) (w : World) (hr0 : Kd.C k24 w A0 l0.length l0) :
    Calls Try.prog 23 #[.slice A0 l0.length c0, .func (.func 20) #[] #[]] w fun e w' => (∃ r, e = .returned (.int .i64 r) ∧ firstIs l0 r) ∧ Below w.heap.size w w' := by
  have HR := Aside0.mk hr0
  have hlen : (l0.length : Int) ≤ 9223372036854775807 := by have := hr0.2.1; omega
  clear hr0
  go_enter Try.func23, Try.ntmps23
  go_wp2
  go_loopw [8] (fun i wr => ∃ k : Nat, i = .int .i64 k ∧ Aside0 (k ≤ l0.length) ∧ Aside0 (∀ j < k, mayS (l0.getD j z24) = false) ∧ Aside0 (Below w.heap.size w wr))
    (fun i _ => l0.length - (intOf i).toNat)
  case atStart => exact ⟨0, rfl, ⟨Nat.zero_le _⟩, ⟨fun j hj => absurd hj (Nat.not_lt_zero _)⟩, ⟨Below.refl _ _⟩⟩
  case round =>
    obtain ⟨k, rfl, hk, hn, RB⟩ := hrel
    by_cases hlt : k < l0.length
    · obtain ⟨ad, e, hx0, hx1, hx2⟩ := at_T24 HR.out (k : Int) (by omega) (by omega)
      simp only [Int.toNat_natCast] at hx0 hx1 hx2
      obtain rfl := e
      obtain ⟨p, hp⟩ : ∃ p, p = rd_T24 l0 (k : Int) := ⟨_, rfl⟩
      rw [← hp] at hx0 hx1 hx2
      have hp' : Aside0 (l0.getD k z24 = p) := ⟨by rw [hp]; simp [rd_T24]⟩
      clear hp
      replace hx0 := (RB.out.cell (World.block_lt_of_cell? w _ hx0)).trans hx0
      replace hx1 := (RB.out.cell (World.block_lt_of_cell? w _ hx1)).trans hx1
      replace hx2 := (RB.out.cell (World.block_lt_of_cell? w _ hx2)).trans hx2
      cases hm : mayS p
      · have hm' := Aside0.mk hm
        clear hm
        go_wp2_with (go_at_call 20; refine (may_at p false hm'.out _).mono ?_; rintro e w' ⟨rfl, hb⟩; have HB1 := Aside0.mk hb; clear hb)
        go_roundw
        case rel =>
          refine ⟨k + 1, by go_num, ⟨hlt⟩, ⟨fun j hj => ?_⟩, ⟨below_step RB.out HB1.out⟩⟩
          by_cases h : j = k
          · rw [h, hp'.out]; exact hm'.out
          · exact hn.out j (by omega)
        case measure => simp [intOf]; omega
      · have hm' := Aside0.mk hm
        clear hm
        go_wp2_with (go_at_call 20; refine (may_at p true hm'.out _).mono ?_; rintro e w' ⟨rfl, hb⟩; have HB1 := Aside0.mk hb; clear hb)
        go_ret
        exact ⟨⟨_, rfl, .inr ⟨k, hlt, rfl, by rw [hp'.out]; exact hm'.out, hn.out⟩⟩, below_step RB.out HB1.out⟩
    · obtain rfl : k = l0.length := by have := hk.out; omega
      go_wp2
      go_ret
      exact ⟨⟨_, rfl, .inl ⟨rfl, hn.out⟩⟩, RB.out⟩

/-- better than the best one -/
def betterS (b u : S24) : Bool := mayS u && (u.f0 == b.f0 && newerS u b)
set_option maxHeartbeats 1000000 in
theorem better_any (g : Nat) (b p : S24) (w : World) (hb : w.heap[g]? = some (.cells (cells24 b) 24 (0, 0))) :
    Calls Try.prog 24 #[.agg (cells24 p), .pointer (some ⟨g, 0, none⟩)] w fun e w' => e = .returned (.bool (betterS b p)) ∧ Below w.heap.size w w' := by
  have HB0 := Aside0.mk hb
  clear hb
  have hu24 := Try.underlying24
  cases hm : mayS p
  · have hv : betterS b p = false := by unfold betterS; rw [hm]; rfl
    rw [hv]
    have hm' := Aside0.mk hm
    clear hm hv
    go_enter Try.func24, Try.ntmps24
    go_wp2_with (first
      | ((with_reducible refine gate_dst (N := 2) rfl ?_); refine box_event ?hg (N := 2) ?hd (cs := cells24 p) (t := 24) ?hr ?_; (case hd => rfl); (case hg => rfl); (case hr => first | (go_simp; done) | (go_simp; rfl)); intro g1 hg1 w1 hb1 hB1; have K1 := Aside0.mk hb1; have B1 := Aside0.mk hB1; have hc0 := (blk_cell K1.out 0).trans rfl; have hc1 := (blk_cell K1.out 1).trans rfl; have hc2 := (blk_cell K1.out 2).trans rfl; clear hg1 hb1 hB1)
      | (go_at_call 20; refine (may_at p false hm'.out _).mono ?_; rintro e w2 ⟨rfl, hb⟩; have HB2 := Aside0.mk hb; clear hb))
    go_ret
    exact ⟨rfl, below_step B1.out HB2.out⟩
  · have hm' := Aside0.mk hm
    by_cases hn : p.f0 = b.f0
    · obtain ⟨nb, hnb⟩ : ∃ nb, newerS p b = nb := ⟨_, rfl⟩
      have hv : betterS b p = nb := by unfold betterS; rw [hm, hn, hnb]; simp
      rw [hv]
      have hnb' := Aside0.mk hnb
      clear hm hv hnb
      have hn' : (p.f0 == b.f0) = true := beq_iff_eq.2 hn
      clear hn
      go_enter Try.func24, Try.ntmps24
      go_wp2_with (first
        | ((with_reducible refine gate_dst (N := 2) rfl ?_); refine box_event ?hg (N := 2) ?hd (cs := cells24 p) (t := 24) ?hr ?_; (case hd => rfl); (case hg => rfl); (case hr => first | (go_simp; done) | (go_simp; rfl)); intro g1 hg1 w1 hb1 hB1; have K1 := Aside0.mk hb1; have B1 := Aside0.mk hB1; have hc0 := (blk_cell K1.out 0).trans rfl; have hc1 := (blk_cell K1.out 1).trans rfl; have hc2 := (blk_cell K1.out 2).trans rfl; clear hg1 hb1 hB1)
        | (go_at_call 20; refine (may_at p true hm'.out _).mono ?_; rintro e w2 ⟨rfl, hb⟩; have HB2 := Aside0.mk hb; clear hb; have hd0 := (blk_cell (blk_below K1.out HB2.out) 0).trans rfl; have hd1 := (blk_cell (blk_below K1.out HB2.out) 1).trans rfl; have hd2 := (blk_cell (blk_below K1.out HB2.out) 2).trans rfl; have he0 := (blk_cell (blk_below (blk_below HB0.out B1.out) HB2.out) 0).trans rfl; have he1 := (blk_cell (blk_below (blk_below HB0.out B1.out) HB2.out) 1).trans rfl; have he2 := (blk_cell (blk_below (blk_below HB0.out B1.out) HB2.out) 2).trans rfl)
        | (go_at_call 9; refine (newer_at p b nb hnb'.out _).mono ?_; rintro e w3 ⟨rfl, hb⟩; have HB3 := Aside0.mk hb; clear hb))
      go_ret
      exact ⟨rfl, below_step (below_step B1.out HB2.out) HB3.out⟩
    · have hv : betterS b p = false := by unfold betterS; rw [hm]; simp [hn]
      rw [hv]
      have hn' : (p.f0 == b.f0) = false := beq_eq_false_iff_ne.2 hn
      clear hn
      clear hm hv
      go_enter Try.func24, Try.ntmps24
      go_wp2_with (first
        | ((with_reducible refine gate_dst (N := 2) rfl ?_); refine box_event ?hg (N := 2) ?hd (cs := cells24 p) (t := 24) ?hr ?_; (case hd => rfl); (case hg => rfl); (case hr => first | (go_simp; done) | (go_simp; rfl)); intro g1 hg1 w1 hb1 hB1; have K1 := Aside0.mk hb1; have B1 := Aside0.mk hB1; have hc0 := (blk_cell K1.out 0).trans rfl; have hc1 := (blk_cell K1.out 1).trans rfl; have hc2 := (blk_cell K1.out 2).trans rfl; clear hg1 hb1 hB1)
        | (go_at_call 20; refine (may_at p true hm'.out _).mono ?_; rintro e w2 ⟨rfl, hb⟩; have HB2 := Aside0.mk hb; clear hb; have hd0 := (blk_cell (blk_below K1.out HB2.out) 0).trans rfl; have hd1 := (blk_cell (blk_below K1.out HB2.out) 1).trans rfl; have hd2 := (blk_cell (blk_below K1.out HB2.out) 2).trans rfl; have he0 := (blk_cell (blk_below (blk_below HB0.out B1.out) HB2.out) 0).trans rfl; have he1 := (blk_cell (blk_below (blk_below HB0.out B1.out) HB2.out) 1).trans rfl; have he2 := (blk_cell (blk_below (blk_below HB0.out B1.out) HB2.out) 2).trans rfl))
      go_ret
      exact ⟨rfl, below_step B1.out HB2.out⟩

/-! ### rank.Best -/
theorem bstep_none (l : List S24) : ∀ n, n ≤ l.length → (∀ j < n, mayS (l.getD j z24) = false) → (l.take n).foldl bstep (z24, false) = (z24, false) := by
  intro n
  induction n with
  | zero => intro _ _; simp
  | succ n ih =>
    intro hn hj
    rw [List.take_succ_eq_append_getElem (by omega), List.foldl_append, ih (by omega) (fun j h => hj j (by omega))]
    have := hj n (by omega)
    rw [List.getD_eq_getElem?_getD, List.getElem?_eq_getElem (by omega)] at this
    simp only [List.foldl_cons, List.foldl_nil]
    unfold bstep
    rw [Option.getD_some] at this
    simp [this]
theorem best_none (l : List S24) (h : ∀ j < l.length, mayS (l.getD j z24) = false) : bestS l = (z24, false) := by
  have := bstep_none l l.length (Nat.le_refl _) h
  rwa [List.take_length] at this
theorem newer_self (b : S24) : newerS b b = false := by unfold newerS Pure.newer; simp
theorem best_some (l : List S24) (i : Nat) (hi : i < l.length) (hm : mayS (l.getD i z24) = true) (h : ∀ j < i, mayS (l.getD j z24) = false) : (l.drop i).foldl bstep (l.getD i z24, true) = bestS l := by
  unfold bestS
  conv => rhs; rw [← List.take_append_drop i l, List.foldl_append, bstep_none l i (by omega) h]
  rw [List.drop_eq_getElem_cons hi]
  have e : l.getD i z24 = l[i] := by rw [List.getD_eq_getElem?_getD, List.getElem?_eq_getElem hi]; rfl
  rw [e] at hm ⊢
  simp only [List.foldl_cons]
  congr 1
  unfold bstep
  simp [hm, newer_self]
theorem bstep_at (b u : S24) : bstep (b, true) u = (if betterS b u = true then u else b, true) := by
  unfold bstep betterS
  by_cases h : mayS u = true <;> by_cases h1 : u.f0 = b.f0 <;> by_cases h2 : newerS u b = true <;> simp [h, h1, h2]
theorem better_at (g : Nat) (b p : S24) (v : Bool) (hv : betterS b p = v) (w : World) (hb : w.heap[g]? = some (.cells (cells24 b) 24 (0, 0))) :
    Calls Try.prog 24 #[.agg (cells24 p), .pointer (some ⟨g, 0, none⟩)] w fun e w' => e = .returned (.bool v) ∧ Below w.heap.size w w' := by
  have := better_any g b p w hb
  rwa [hv] at this
theorem first_one (l : List S24) (r r' : Int) (h : firstIs l r) (h' : firstIs l r') : r = r' := by
  rcases h with ⟨rfl, hn⟩ | ⟨i, hi, rfl, hm, hn⟩ <;> rcases h' with ⟨rfl, hn'⟩ | ⟨j, hj, rfl, hm', hn'⟩
  · rfl
  · exact absurd (hn j hj) (by rw [hm']; decide)
  · exact absurd (hn' i hi) (by rw [hm]; decide)
  · rcases Nat.lt_trichotomy i j with h | h | h
    · exact absurd (hn' i h) (by rw [hm]; decide)
    · rw [h]
    · exact absurd (hn j h) (by rw [hm']; decide)
theorem first_is (l : List S24) : firstIs l (-1) ∨ ∃ i : Nat, i < l.length ∧ firstIs l i := by
  have : ∀ n, n ≤ l.length → (∀ j < n, mayS (l.getD j z24) = false) ∨ ∃ i < n, mayS (l.getD i z24) = true ∧ ∀ j < i, mayS (l.getD j z24) = false := by
    intro n
    induction n with
    | zero => intro _; exact .inl (fun j hj => absurd hj (Nat.not_lt_zero _))
    | succ n ih =>
      intro hn
      rcases ih (by omega) with h | ⟨i, hi, h⟩
      · cases hm : mayS (l.getD n z24)
        · refine .inl (fun j hj => ?_)
          by_cases e : j = n
          · rw [e]; exact hm
          · exact h j (by omega)
        · exact .inr ⟨n, by omega, hm, h⟩
      · exact .inr ⟨i, by omega, h⟩
  rcases this l.length (Nat.le_refl _) with h | ⟨i, hi, hm, h⟩
  · exact .inl (.inl ⟨rfl, h⟩)
  · exact .inr ⟨i, hi, .inr ⟨i, hi, rfl, hm, h⟩⟩
theorem index_at (r : Int) (A0 : Option Addr) (c0 : Nat) (l0 : List S24) (w : World) (hr0 : Kd.C k24 w A0 l0.length l0) (hf : firstIs l0 r) :
    Calls Try.prog 23 #[.slice A0 l0.length c0, .func (.func 20) #[] #[]] w fun e w' => e = .returned (.int .i64 r) ∧ Below w.heap.size w w' := by
  refine (index_any A0 c0 l0 w hr0).mono ?_
  rintro e w' ⟨⟨r', rfl, h'⟩, hb⟩
  rw [first_one l0 r' r h' hf]
  exact ⟨rfl, hb⟩
set_option maxHeartbeats 1000000 in
theorem rank_Best.calls (A0 : Option Addr) (c0 : Nat) (l0 : List S24) (r1 r2 r3 : Int) (r4 : Bool) (w : World) (hr0 : Kd.C k24 w A0 l0.length l0) (hc0 : l0.length ≤ c0) (h : rank_Best.f l0 = some (r1, r2, r3, r4)) :
    Calls Try.prog 15 #[.slice A0 l0.length c0] w fun e w' => e = .returned (.tuple #[.agg #[.int .i64 r1, .int .u64 r2, .int .i64 r3], .bool r4]) ∧ Below w.heap.size w w' := by
  have H := Aside0.mk h
  clear h
  have HR := Aside0.mk hr0
  have HC := Aside0.mk hc0
  have hlen : (l0.length : Int) ≤ 9223372036854775807 := by have := hr0.2.1; omega
  have hu24 := Try.underlying24
  clear hr0 hc0
  have hmf : ∀ (fn : Fn) (first cap : Array Value) (w : World), (Instr.makeFunc fn first cap).run Try.prog w = .ok (.func fn first cap) w := fun _ _ _ _ => rfl
  rcases first_is l0 with hF | ⟨i, hi, hF⟩
  · have HF := Aside0.mk hF
    obtain ⟨-, hno⟩ : (-1 : Int) = -1 ∧ ∀ j < l0.length, mayS (l0.getD j z24) = false := by
      rcases hF with h | ⟨i, hi, h, _⟩
      · exact h
      · omega
    have hr := H.out
    unfold rank_Best.f at hr
    rw [best_none l0 hno] at hr
    simp only [z24, Option.some.injEq, Prod.mk.injEq] at hr
    obtain ⟨rfl, rfl, rfl, rfl⟩ := hr
    clear H hno hF
    go_enter Try.func15, Try.ntmps15
    go_wp2_with (first
      | ((with_reducible refine gate_dst (N := 2) rfl ?_); refine box_event ?hg (N := 2) ?hd (cs := #[.int .i64 0, .int .u64 0, .int .i64 0]) (t := 24) ?hr ?_; (case hd => rfl); (case hg => rfl); (case hr => first | (go_simp; done) | (go_simp; rfl)); intro g hg w1 hb1 hB1; have G := Aside0.mk hg; have K1 := Aside0.mk hb1; have B1 := Aside0.mk hB1; clear hg hb1 hB1)
      | (go_at_call 23; refine (index_at (-1) A0 c0 l0 _ (Kd.C_below HR.out B1.out) HF.out).mono ?_; rintro e w2 ⟨rfl, hb⟩; have HB2 := Aside0.mk hb; clear hb; have K2 := Aside0.mk (blk_below K1.out HB2.out); have hc0 := (blk_cell K2.out 0).trans rfl; have hc1 := (blk_cell K2.out 1).trans rfl; have hc2 := (blk_cell K2.out 2).trans rfl; have hf := fun j => blk_frozen K2.out j))
    have BW := Aside0.mk (below_step B1.out HB2.out)
    have L0 : w.heap.size ≤ g := by rw [G.out]; exact Nat.le_refl _
    refine bodyPost_ret (results_ct rfl _ _ g 24 #[.int .i64 0, .int .u64 0, .int .i64 0] (0, 0) _ rfl (by refine blk_put (cs := #[.int .i64 0, .int .u64 0, .int .i64 0]) ?_ 2 _ rfl; refine blk_put (cs := #[.int .i64 0, .int .u64 0, .int .i64 0]) ?_ 1 _ rfl; refine blk_put (cs := #[.int .i64 0, .int .u64 0, .int .i64 0]) ?_ 0 _ rfl; exact K2.out) Try.underlying24 rfl (by kernel_rfl)) rfl ?_
    exact ⟨rfl, by repeat (first | exact BW.out | refine below_set ?_ L0 | refine below_drew1 ?_)⟩
  · have HF := Aside0.mk hF
    obtain ⟨hm, hno⟩ : mayS (l0.getD i z24) = true ∧ ∀ j < i, mayS (l0.getD j z24) = false := by
      rcases hF with ⟨h, _⟩ | ⟨i', _, h, h1⟩
      · omega
      · obtain rfl : i = i' := by omega
        exact h1
    have hms := Aside0.mk hm
    have hb0 := Aside0.mk (best_some l0 i hi hm hno)
    clear hm hno hF
    obtain ⟨ad, e, hx0, hx1, hx2⟩ := at_T24 HR.out (i : Int) (by omega) (by omega)
    simp only [Int.toNat_natCast] at hx0 hx1 hx2
    obtain rfl := e
    obtain ⟨p, hp⟩ : ∃ p, p = rd_T24 l0 (i : Int) := ⟨_, rfl⟩
    rw [← hp] at hx0 hx1 hx2
    have hp' : l0.getD i z24 = p := by rw [hp]; simp [rd_T24]
    rw [hp'] at hb0 hms
    clear hp hp'
    have hci : ¬ c0 = i := by have := HC.out; omega
    have HCD := Aside0.mk (Kd.C_drop HR.out (Nat.le_of_lt hi) HC.out)
    rw [if_neg hci] at HCD
    obtain ⟨m, hm⟩ : ∃ m, m = l0.drop i := ⟨_, rfl⟩
    have hml : l0.length - i = m.length := by rw [hm, List.length_drop]
    rw [← hm] at HCD hb0
    clear hm
    have HC2 : Aside0 (Kd.C k24 w (some (ad.add (i * 3))) m.length m) := HCD
    have hml2 : (m.length : Int) ≤ 9223372036854775807 := by omega
    clear HCD
    go_enter Try.func15, Try.ntmps15
    go_wp2_with (first
      | ((with_reducible refine gate_dst (N := 2) rfl ?_); refine box_event ?hg (N := 2) ?hd (cs := #[.int .i64 0, .int .u64 0, .int .i64 0]) (t := 24) ?hr ?_; (case hd => rfl); (case hg => rfl); (case hr => first | (go_simp; done) | (go_simp; rfl)); intro g hg w1 hb1 hB1; have G := Aside0.mk hg; have K1 := Aside0.mk hb1; have B1 := Aside0.mk hB1; clear hg hb1 hB1)
      | (go_at_call 23; refine (index_at i (some ad) c0 l0 _ (Kd.C_below HR.out B1.out) HF.out).mono ?_; rintro e w2 ⟨rfl, hb⟩; have HB2 := Aside0.mk hb; clear hb; have K2 := Aside0.mk (blk_below K1.out HB2.out); have hc0 := (blk_cell K2.out 0).trans rfl; have hc1 := (blk_cell K2.out 1).trans rfl; have hc2 := (blk_cell K2.out 2).trans rfl; have hf := fun j => blk_frozen K2.out j;  have BW := Aside0.mk (below_step B1.out HB2.out); replace hx0 := (BW.out.cell (World.block_lt_of_cell? w _ hx0)).trans hx0; replace hx1 := (BW.out.cell (World.block_lt_of_cell? w _ hx1)).trans hx1; replace hx2 := (BW.out.cell (World.block_lt_of_cell? w _ hx2)).trans hx2))
    have L0 : w.heap.size ≤ g := by rw [G.out]; exact Nat.le_refl _
    go_loopw [22] (fun i wr => ∃ (k : Nat) (b : S24), i = .int .i64 k ∧ Aside0 (k ≤ m.length) ∧ Aside0 (wr.heap[g]? = some (.cells (cells24 b) 24 (0, 0))) ∧ Aside0 ((m.drop k).foldl bstep (b, true) = bestS l0) ∧ Aside0 (Below w.heap.size w wr))
      (fun i _ => m.length - (intOf i).toNat)
    case atStart =>
      refine ⟨0, p, rfl, ⟨Nat.zero_le _⟩, ⟨?_⟩, ⟨by rw [List.drop_zero]; exact hb0.out⟩, ⟨?_⟩⟩
      · refine blk_put (cs := #[.int .i64 p.f0, .int .u64 p.f1, .int .i64 0]) ?_ 2 _ rfl
        refine blk_put (cs := #[.int .i64 p.f0, .int .u64 0, .int .i64 0]) ?_ 1 _ rfl
        refine blk_put (cs := #[.int .i64 0, .int .u64 0, .int .i64 0]) ?_ 0 _ rfl
        exact K2.out
      · repeat (first | exact BW.out | refine below_set ?_ L0)
    case round =>
      obtain ⟨k, b, rfl, hk, RK, RF, RB⟩ := hrel
      clear hx0 hx1 hx2 hc0 hc1 hc2 hf K1 K2 BW B1 HB2 hb0 hms
      by_cases hlt : k < m.length
      · obtain ⟨ad1, e, hx0, hx1, hx2⟩ := at_T24 HC2.out (k : Int) (by omega) (by omega)
        simp only [Int.toNat_natCast] at hx0 hx1 hx2
        obtain rfl : ad.add (i * 3) = ad1 := by injection e
        obtain ⟨q, hq⟩ : ∃ q, q = rd_T24 m (k : Int) := ⟨_, rfl⟩
        rw [← hq] at hx0 hx1 hx2
        have hst : Aside0 ((m.drop (k + 1)).foldl bstep (if betterS b q = true then q else b, true) = bestS l0) := ⟨by
          have h := RF.out
          rw [List.drop_eq_getElem_cons hlt, List.foldl_cons, bstep_at] at h
          have e : m[k] = q := by rw [hq]; simp [rd_T24, List.getD, List.getElem?_eq_getElem hlt]
          rwa [e] at h⟩
        clear hq RF
        replace hx0 := (RB.out.cell (World.block_lt_of_cell? w _ hx0)).trans hx0
        replace hx1 := (RB.out.cell (World.block_lt_of_cell? w _ hx1)).trans hx1
        replace hx2 := (RB.out.cell (World.block_lt_of_cell? w _ hx2)).trans hx2
        obtain ⟨v, hv⟩ : ∃ v, betterS b q = v := ⟨_, rfl⟩
        have hvA := Aside0.mk hv
        rw [hv] at hst
        clear hv
        cases v
        · rw [if_neg (by decide)] at hst
          go_wp2_with (first
          | ((with_reducible refine gate_dst (N := 7) rfl ?_); refine box_event ?hg (N := 7) ?hd (cs := #[.int .i64 0, .int .u64 0, .int .i64 0]) (t := 24) ?hr ?_; (case hd => rfl); (case hg => rfl); (case hr => first | (go_simp; done) | (go_simp; rfl)); intro g2 hg2 w3 hb3 hB3; have G2 := Aside0.mk hg2; have K3 := Aside0.mk hb3; have B3 := Aside0.mk hB3; clear hg2 hb3 hB3; have hne : g ≠ g2 := (by rw [G2.out]; exact Nat.ne_of_lt (blk_lt RK.out)); have RK3 := Aside0.mk (blk_below RK.out B3.out); have RB3 := Aside0.mk (below_step RB.out B3.out); have L2 : w.heap.size ≤ g2 := (by rw [G2.out]; exact RB.out.size); have hz0 := (blk_cell K3.out 0).trans rfl; have hz1 := (blk_cell K3.out 1).trans rfl; have hz2 := (blk_cell K3.out 2).trans rfl; have hzf := fun j => blk_frozen K3.out j; replace hx0 := (B3.out.cell (World.block_lt_of_cell? wr _ hx0)).trans hx0; replace hx1 := (B3.out.cell (World.block_lt_of_cell? wr _ hx1)).trans hx1; replace hx2 := (B3.out.cell (World.block_lt_of_cell? wr _ hx2)).trans hx2)
          | (go_at_call 24; refine (better_at g b q false hvA.out _ (by repeat (first | exact RK3.out | refine blk_far ?_ hne _))).mono ?_; rintro e w4 ⟨rfl, hb⟩; have B4 := Aside0.mk hb; clear hb))
          go_roundw
          case rel =>
            refine ⟨k + 1, b, by go_num, ⟨hlt⟩, ⟨?_⟩, hst, ⟨?_⟩⟩
            · refine blk_below ?_ B4.out
              repeat (first | exact RK3.out | refine blk_far ?_ hne _)
            · refine below_step ?_ B4.out
              repeat (first | exact RB3.out | refine below_set ?_ L2)
          case measure => simp [intOf]; omega
        · rw [if_pos rfl] at hst
          go_wp2_with (first
          | ((with_reducible refine gate_dst (N := 7) rfl ?_); refine box_event ?hg (N := 7) ?hd (cs := #[.int .i64 0, .int .u64 0, .int .i64 0]) (t := 24) ?hr ?_; (case hd => rfl); (case hg => rfl); (case hr => first | (go_simp; done) | (go_simp; rfl)); intro g2 hg2 w3 hb3 hB3; have G2 := Aside0.mk hg2; have K3 := Aside0.mk hb3; have B3 := Aside0.mk hB3; clear hg2 hb3 hB3; have hne : g ≠ g2 := (by rw [G2.out]; exact Nat.ne_of_lt (blk_lt RK.out)); have RK3 := Aside0.mk (blk_below RK.out B3.out); have RB3 := Aside0.mk (below_step RB.out B3.out); have L2 : w.heap.size ≤ g2 := (by rw [G2.out]; exact RB.out.size); have hz0 := (blk_cell K3.out 0).trans rfl; have hz1 := (blk_cell K3.out 1).trans rfl; have hz2 := (blk_cell K3.out 2).trans rfl; have hzf := fun j => blk_frozen K3.out j; replace hx0 := (B3.out.cell (World.block_lt_of_cell? wr _ hx0)).trans hx0; replace hx1 := (B3.out.cell (World.block_lt_of_cell? wr _ hx1)).trans hx1; replace hx2 := (B3.out.cell (World.block_lt_of_cell? wr _ hx2)).trans hx2)
          | (go_at_call 24; refine (better_at g b q true hvA.out _ (by repeat (first | exact RK3.out | refine blk_far ?_ hne _))).mono ?_; rintro e w4 ⟨rfl, hb⟩; have B4 := Aside0.mk hb; clear hb; have R4 : Aside0 (w4.heap[g]? = some (.cells (cells24 b) 24 (0, 0))) := ⟨blk_below (by repeat (first | exact RK3.out | refine blk_far ?_ hne _)) B4.out⟩; have S4 : Aside0 (w4.heap[g2]? = some (.cells (cells24 q) 24 (0, 0))) := ⟨blk_below (by refine blk_put (cs := #[.int .i64 q.f0, .int .u64 q.f1, .int .i64 0]) ?_ 2 _ rfl; refine blk_put (cs := #[.int .i64 q.f0, .int .u64 0, .int .i64 0]) ?_ 1 _ rfl; refine blk_put (cs := #[.int .i64 0, .int .u64 0, .int .i64 0]) ?_ 0 _ rfl; exact K3.out) B4.out⟩; have hq0 := (blk_cell S4.out 0).trans rfl; have hq1 := (blk_cell S4.out 1).trans rfl; have hq2 := (blk_cell S4.out 2).trans rfl; have hb0 := (blk_cell R4.out 0).trans rfl; have hb1 := (blk_cell R4.out 1).trans rfl; have hb2 := (blk_cell R4.out 2).trans rfl; have hbf := fun j => blk_frozen R4.out j))
          go_roundw
          case rel =>
            refine ⟨k + 1, q, by go_num, ⟨hlt⟩, ⟨?_⟩, hst, ⟨?_⟩⟩
            · refine blk_put (cs := #[.int .i64 q.f0, .int .u64 q.f1, .int .i64 b.f2]) ?_ 2 _ rfl
              refine blk_put (cs := #[.int .i64 q.f0, .int .u64 b.f1, .int .i64 b.f2]) ?_ 1 _ rfl
              refine blk_put (cs := cells24 b) ?_ 0 _ rfl
              exact R4.out
            · repeat (first | refine below_set ?_ L0)
              refine below_step ?_ B4.out
              repeat (first | exact RB3.out | refine below_set ?_ L2)
          case measure => simp [intOf]; omega
      · obtain rfl : k = m.length := by have := hk.out; omega
        have hr := H.out
        unfold rank_Best.f at hr
        rw [List.drop_length] at RF
        rw [← RF.out] at hr
        simp only [List.foldl_nil, Option.some.injEq, Prod.mk.injEq] at hr
        obtain ⟨rfl, rfl, rfl, rfl⟩ := hr
        clear H RF
        have hc0 : wr.cell? ⟨g, 0, none⟩ = some (.int .i64 b.f0) := (blk_cell RK.out 0).trans rfl
        have hc1 : wr.cell? ⟨g, 1, none⟩ = some (.int .u64 b.f1) := (blk_cell RK.out 1).trans rfl
        have hc2 : wr.cell? ⟨g, 2, none⟩ = some (.int .i64 b.f2) := (blk_cell RK.out 2).trans rfl
        have hf : ∀ j, wr.frozen? ⟨g, j, none⟩ = false := fun j => blk_frozen RK.out j
        go_wp2
        refine bodyPost_ret (results_ct rfl _ _ g 24 #[.int .i64 b.f0, .int .u64 b.f1, .int .i64 b.f2] (0, 0) _ rfl (by refine blk_put (cs := #[.int .i64 b.f0, .int .u64 b.f1, .int .i64 b.f2]) ?_ 2 _ rfl; refine blk_put (cs := #[.int .i64 b.f0, .int .u64 b.f1, .int .i64 b.f2]) ?_ 1 _ rfl; refine blk_put (cs := #[.int .i64 b.f0, .int .u64 b.f1, .int .i64 b.f2]) ?_ 0 _ rfl; exact RK.out) Try.underlying24 rfl (by kernel_rfl)) rfl ?_
        exact ⟨rfl, by repeat (first | exact RB.out | refine below_set ?_ L0 | refine below_drew1 ?_)⟩
end Go.Proofs.Ytdpeeanfloahhaa.B
