/- By hand: the walk of RollOrder; ahead of it: rows of updates that are written; updates of others in whatever order. -/
import Derived.Test.YtkkcnhfbcophiaaDoorMergesP
import Derived.Test.YtkkcnhfbcophiaaDoorMergeIs
import Derived.Test.YtkkcnhfbcophiaaDoorSelfEnd
set_option linter.unusedVariables false
namespace Go.Proofs.YtkkcnhfbcophiaaDoor.Pure
open Go.RowKit Go.Proofs.YtkkcnhfbcophiaaDoor.B Go.Proofs.YtkkcnhfbcophiaaDoor.Band Go.Proofs.YtkkcnhfbcophiaaDoorW.PrintWords Go.Proofs.YtkkcnhfbcophiaaDoorW.PrintLast

theorem add0 (g n : Nat) : (⟨g, 0, none⟩ : Addr).add n = ⟨g, n, none⟩ := by
  unfold Addr.add
  by_cases h : n = 0
  · subst h; simp
  · simp [h]
/-- block g holds the updates xs -/
def MRow (w : World) (g : Nat) (xs : List S31) : Prop := ∃ cells : Array Value, w.heap[g]? = some (.cells cells 31 (0, 0)) ∧ ∀ j p, xs[j]? = some p → cells[j * 3]? = some (.int .i64 p.f0) ∧ cells[j * 3 + 1]? = some (.int .u64 p.f1) ∧ cells[j * 3 + 2]? = some (.int .i64 p.f2)
theorem MRow.at_ {w : World} {g : Nat} {xs : List S31} (h : MRow w g xs) (j : Nat) (p : S31) (hp : xs[j]? = some p) : w.cell? ⟨g, j * 3, none⟩ = some (.int .i64 p.f0) ∧ w.cell? ⟨g, j * 3 + 1, none⟩ = some (.int .u64 p.f1) ∧ w.cell? ⟨g, j * 3 + 2, none⟩ = some (.int .i64 p.f2) := by
  obtain ⟨cells, hb, hc⟩ := h
  have := hc j p hp
  exact ⟨(blk_cell hb _).trans this.1, (blk_cell hb _).trans this.2.1, (blk_cell hb _).trans this.2.2⟩
theorem MRow.free {w : World} {g : Nat} {xs : List S31} (h : MRow w g xs) (i : Nat) : w.frozen? ⟨g, i, none⟩ = false := by
  obtain ⟨cells, hb, hc⟩ := h
  exact blk_frozen hb i
theorem MRow.lt {w : World} {g : Nat} {xs : List S31} (h : MRow w g xs) : g < w.heap.size := by
  obtain ⟨cells, hb, hc⟩ := h
  exact blk_lt hb
theorem MRow.below {w W : World} {g : Nat} {xs : List S31} (h : MRow w g xs) (hb : Below w.heap.size w W) : MRow W g xs := by
  obtain ⟨cells, h1, hc⟩ := h
  exact ⟨cells, blk_below h1 hb, hc⟩
theorem MRow.drew {w : World} {g : Nat} {xs : List S31} (h : MRow w g xs) : MRow w.drew g xs := by
  obtain ⟨cells, h1, hc⟩ := h
  exact ⟨cells, blk_drew h1, hc⟩
theorem MRow.keep {w W : World} {g g' : Nat} {xs : List S31} (h : MRow w g xs) (hk : KeepBut w W g' none) (hne : g ≠ g') : MRow W g xs := by
  obtain ⟨cells, h1, hc⟩ := h
  exact ⟨cells, (hk.2 g (blk_lt h1) hne (by simp)).trans h1, hc⟩
theorem MRow.put {w : World} {g : Nat} {xs : List S31} (h : MRow w g xs) (j : Nat) (hj : j < xs.length) (p : S31) :
    MRow (((w.setCell ⟨g, j * 3, none⟩ (.int .i64 p.f0)).setCell ⟨g, j * 3 + 1, none⟩ (.int .u64 p.f1)).setCell ⟨g, j * 3 + 2, none⟩ (.int .i64 p.f2)) g (xs.set j p) := by
  obtain ⟨cells, h1, hc⟩ := h
  refine ⟨_, blk_put (blk_put (blk_put h1 _ _ rfl) _ _ rfl) _ _ rfl, fun i q hq => ?_⟩
  have hs : j * 3 + 2 < cells.size := by
    have := (hc j xs[j] (List.getElem?_eq_getElem hj)).2.2
    exact (Array.getElem?_eq_some_iff.1 this).1
  simp only [Array.getElem?_setIfInBounds, Array.size_setIfInBounds]
  by_cases e : j = i
  · subst e
    rw [List.getElem?_set_self hj, Option.some.injEq] at hq
    subst hq
    refine ⟨?_, ?_, ?_⟩
    · rw [if_neg (by omega), if_neg (by omega), if_pos rfl, if_pos (by omega)]
    · rw [if_neg (by omega), if_pos rfl, if_pos (by omega)]
    · rw [if_pos rfl, if_pos (by omega)]
  · rw [List.getElem?_set_ne e] at hq
    have := hc i q hq
    refine ⟨?_, ?_, ?_⟩
    · rw [if_neg (by omega), if_neg (by omega), if_neg (by omega)]; exact this.1
    · rw [if_neg (by omega), if_neg (by omega), if_neg (by omega)]; exact this.2.1
    · rw [if_neg (by omega), if_neg (by omega), if_neg (by omega)]; exact this.2.2
theorem MRow.C {w : World} {g : Nat} {xs : List S31} (h : MRow w g xs) (hl : xs.length ≤ 9223372036854775807) : Kd.C k31 w (some ⟨g, 0, none⟩) xs.length xs := by
  refine ⟨rfl, hl, fun _ => ⟨_, rfl, fun j p hp => ⟨_, rfl, k31_mk w p, fun i u hu => ?_⟩⟩⟩
  have := h.at_ j p hp
  have e : (⟨g, 0, none⟩ : Addr).add (j * 3 + i) = ⟨g, j * 3 + i, none⟩ := add0 _ _
  show w.cell? ((⟨g, 0, none⟩ : Addr).add (j * 3 + i)) = some u
  rw [e]
  match i, hu with
  | 0, hu => simp only [List.getElem?_cons_zero, Option.some.injEq] at hu; subst hu; exact this.1
  | 1, hu => simp only [List.getElem?_cons_succ, List.getElem?_cons_zero, Option.some.injEq] at hu; subst hu; exact this.2.1
  | 2, hu => simp only [List.getElem?_cons_succ, List.getElem?_cons_zero, Option.some.injEq] at hu; subst hu; exact this.2.2
  | i + 3, hu => simp at hu
/-- the slice at A holds xs, in a block of its own, from b on -/
def MV (w : World) (b : Nat) (A : Option Addr) (xs : List S31) : Prop := 0 < xs.length → ∃ g, A = some ⟨g, 0, none⟩ ∧ b ≤ g ∧ MRow w g xs
theorem MV.of_R {w : World} {b n c : Nat} {A : Option Addr} {xs : List S31} (h : Kd.R k31 31 w b (fun _ => True) (.slice A n c) xs) : MV w b A xs := by
  intro hp
  obtain ⟨g, cap, e, hb, hg, cells, hc⟩ := Kd.R_form h hp
  simp only [Value.slice.injEq] at e
  obtain ⟨rfl, rfl, -⟩ := e
  refine ⟨g, rfl, hb, cells, hc, fun j p hj => ?_⟩
  have hjl : j < xs.length := (List.getElem?_eq_some_iff.1 hj).1
  obtain ⟨ad, e2, h0, h1, h2⟩ := at_T31 (Kd.R_reads' h).2.2 (j : Int) (by omega) (by omega)
  simp only [Option.some.injEq] at e2
  subst e2
  have ep : rd_T31 xs (j : Int) = p := by rw [rd31_get _ _ hjl]; exact (List.getElem?_eq_some_iff.1 hj).2
  rw [ep] at h0 h1 h2
  simp only [Int.toNat_natCast, add0] at h0 h1 h2
  exact ⟨(blk_cell hc _).symm.trans h0, (blk_cell hc _).symm.trans h1, (blk_cell hc _).symm.trans h2⟩
theorem MV.C {w : World} {b : Nat} {A : Option Addr} {xs : List S31} (h : MV w b A xs) (hl : xs.length ≤ 60) : Kd.C k31 w A xs.length xs := by
  by_cases hp : 0 < xs.length
  · obtain ⟨g, rfl, -, hm⟩ := h hp
    exact hm.C (by omega)
  · exact ⟨rfl, by omega, fun h => absurd h hp⟩
theorem MV.ne {w : World} {b : Nat} {A : Option Addr} {xs : List S31} (h : MV w b A xs) {g : Nat} (hg : g < b) : ∀ ad, A = some ad → 0 < xs.length → ad.block ≠ g := by
  intro ad e hp
  obtain ⟨g', e', hb, -⟩ := h hp
  rw [e] at e'
  simp only [Option.some.injEq] at e'
  subst e'
  show g' ≠ g
  omega
theorem MV.below {w W : World} {b : Nat} {A : Option Addr} {xs : List S31} (h : MV w b A xs) (hb : Below w.heap.size w W) : MV W b A xs := fun hp => by
  obtain ⟨g, e, h1, h2⟩ := h hp
  exact ⟨g, e, h1, h2.below hb⟩
theorem MV.keep {w W : World} {b g' : Nat} {A : Option Addr} {xs : List S31} (h : MV w b A xs) (hk : KeepBut w W g' none) (hg : g' < b) : MV W b A xs := fun hp => by
  obtain ⟨g, e, h1, h2⟩ := h hp
  exact ⟨g, e, h1, h2.keep hk (by omega)⟩
/-- two places change -/
def swp (xs : List S31) (x : Nat) (p q : S31) : List S31 := (xs.set 0 p).set x q
theorem swp_len (xs : List S31) (x : Nat) (p q : S31) : (swp xs x p q).length = xs.length := by unfold swp; rw [List.length_set, List.length_set]
theorem swp_mem {xs : List S31} {x : Nat} {p q : S31} (hx : x < xs.length) (hp : xs[x]? = some p) (hq : xs[0]? = some q) (u : S31) : u ∈ swp xs x p q ↔ u ∈ xs := by
  unfold swp
  simp only [List.mem_iff_getElem?, List.getElem?_set, List.length_set]
  constructor
  · rintro ⟨i, hi⟩
    by_cases e : x = i
    · rw [if_pos e, if_pos (by omega)] at hi
      exact ⟨0, hq.trans hi⟩
    · rw [if_neg e] at hi
      by_cases e0 : 0 = i
      · rw [if_pos e0, if_pos (by omega)] at hi
        exact ⟨x, hp.trans hi⟩
      · rw [if_neg e0] at hi
        exact ⟨i, hi⟩
  · rintro ⟨i, hi⟩
    by_cases e : x = i
    · subst e
      by_cases e0 : 0 = x
      · subst e0
        exact ⟨0, by rw [if_pos rfl, if_pos (by omega)]; exact hq.symm.trans hi⟩
      · exact ⟨0, by rw [if_neg (by omega), if_pos rfl, if_pos (by omega)]; exact hp.symm.trans hi⟩
    · by_cases e0 : 0 = i
      · subst e0
        exact ⟨x, by rw [if_pos rfl, if_pos (by omega)]; exact hq.symm.trans hi⟩
      · exact ⟨i, by rw [if_neg e, if_neg e0]; exact hi⟩
/-- a roll of k that heard of X's alone, and of nothing of k -/
structure OInv (R : RollS) (k : Nat) (X : List S31) : Prop where
  v : RV R k 0
  fr : From R k (fun u => u ∈ X)
theorem OInv.new (k : Nat) (hk : k < 64) (X : List S31) : OInv (newR k) k X := ⟨RV.new k hk, fun n hn hne hb => (From.new k n hn hne hb).elim⟩
theorem OInv.hear {R : RollS} {k : Nat} {X : List S31} (h : OInv R k X) (u : S31) (hu : OkU u) (hx : u ∈ X) (hk : u.f0 ≠ (k : Int)) : OInv (hearR R u).1 k X := by
  obtain ⟨i1, -, hV, -, -, hF, hS⟩ := h.v.hear u hu
  obtain ⟨-, rfl⟩ := hS (fun _ e => absurd e hk)
  exact ⟨hV, fun n hn hne hb => (hF _ h.fr n hn hne hb).elim (fun h => h) (fun e => by rw [e]; exact hx)⟩
theorem OInv.hearL {R : RollS} {k : Nat} {X : List S31} (h : OInv R k X) (l : List S31) (hu : ∀ u ∈ l, OkU u) (hx : ∀ u ∈ l, u ∈ X) (hk : ∀ u ∈ l, u.f0 ≠ (k : Int)) :
    ∃ R1, B.hearL R l = (R1, true) ∧ OInv R1 k X ∧ (∀ u ∈ l, mayS u = false ∨ knows R1 u) := by
  obtain ⟨i1, -, hV, -, hq, hF, hS⟩ := RV.hearL l _ _ h.v hu
  obtain ⟨hb, rfl⟩ := hS (fun u hu _ e => absurd e (hk u hu))
  have hq := hq hb
  obtain ⟨⟨R1, b⟩, he⟩ : ∃ q, B.hearL R l = q := ⟨_, rfl⟩
  rw [he] at hV hq hF hb
  obtain rfl : b = true := hb
  exact ⟨R1, he, ⟨hV, fun n hn hne hb => (hF _ h.fr n hn hne hb).elim (fun h => h) (fun e => hx _ e)⟩, hq⟩
theorem order_same {R S : RollS} {k : Nat} {X : List S31} (hR : OInv R k X) (hS : OInv S k X) (kR : ∀ u ∈ X, mayS u = false ∨ knows R u) (kS : ∀ u ∈ X, mayS u = false ∨ knows S u) : allL R = allL S := by
  have one : ∀ {R S : RollS}, OInv R k X → OInv S k X → (∀ u ∈ X, mayS u = false ∨ knows S u) → ∀ n : Nat, n < 64 → hasN R.has n = true → knows S (R.K n) := by
    intro R S hR hS kS n hn hb
    by_cases e : n = k
    · subst e
      have := hS.v.knowsK n hn hS.v.has
      rw [hS.v.inv.mine] at this
      rw [hR.v.inv.mine]
      exact this
    · rcases kS _ (hR.fr n hn e hb) with h | h
      · rw [hR.v.may n hn hb] at h; cases h
      · exact h
  exact allL_same hR.v.inv.ok.has hS.v.inv.ok.has (fun n hn => same_at hR.v hS.v n hn (one hR hS kS n hn) (one hS hR kR n hn))
theorem knows_get {R : RollS} {u : S31} (h : knows R u) : ∃ v, getR R u.f0 = (v, true) ∧ newerS u v = false := by
  refine ⟨R.K u.f0.toNat, ?_, h.2⟩
  unfold getR
  rw [if_pos h.1]
theorem ref06_may (n i s : Int) : conventicleref06_May.f n i s = some (may n s) := by
  unfold conventicleref06_May.f may
  by_cases h0 : n ≥ 0
  · by_cases h1 : n < 64
    · by_cases h2 : s ≥ 0
      · simp [h0, h1, h2]
      · simp [h0, h1, h2]
    · simp [h0, h1]
  · simp [h0]
theorem ref06_newer (a b : S31) : conventicleref06_Newer.f a.f0 a.f1 a.f2 b.f0 b.f1 b.f2 = some (newerS a b) := by
  unfold conventicleref06_Newer.f newerS newer
  by_cases h0 : a.f1 > b.f1
  · rw [if_pos h0]; congr 1; symm; rw [decide_eq_true_iff]; omega
  · rw [if_neg h0]
    by_cases h1 : a.f1 = b.f1
    · rw [if_pos h1]; congr 1; rw [decide_eq_decide]; omega
    · rw [if_neg h1]; congr 1; symm; rw [decide_eq_false_iff_not]; omega
theorem swap_at {s : Int} (h : 0 ≤ s ∧ s ≤ 255) {n : Nat} (hn : 0 < n) : ∃ x : Nat, Int.tmod (wrap64 s) (n : Int) = x ∧ x < n := by
  rw [show wrap64 s = s by unfold wrap64; omega, Int.tmod_eq_emod_of_nonneg h.1]
  have h1 := Int.emod_nonneg s (show (n : Int) ≠ 0 by omega)
  have h2 := Int.emod_lt_of_pos s (show (0 : Int) < n by omega)
  exact ⟨(s % n).toNat, by omega, by omega⟩
end Go.Proofs.YtkkcnhfbcophiaaDoor.Pure
namespace Go.Proofs.YtkkcnhfbcophiaaDoor.B
open Go.RowKit Go.Proofs.YtkkcnhfbcophiaaDoorW.PrintWords Go.Proofs.YtkkcnhfbcophiaaDoorW.PrintLast Go.Proofs.YtkkcnhfbcophiaaDoorW.PrintMore Go.Proofs.YtkkcnhfbcophiaaDoor.Band Go.Proofs.YtkkcnhfbcophiaaDoor.Pure
set_option linter.unusedVariables false
set_option linter.unusedSimpArgs false
attribute [local go_sem high] eqA31

theorem merge_okn (w0 w : World) (g : Nat) (R R1 : RollS) (A : Option Addr) (c : Nat) (l N : List S31) (n : Nat) (hn : l.length = n) (he : hearL R l = (R1, true)) (hN : newsL R R1 = N) (hok : OkR R) (hl : ∀ u ∈ l, OkU u) (hr : Kd.C k31 w A l.length l) (hne : ∀ ad, A = some ad → 0 < l.length → ad.block ≠ g) (hT : Aside0 (TabT w)) (hR : RollB w g R) (hg : w0.heap.size ≤ g) (hB : Below w0.heap.size w0 w) :
    Calls Tryd.prog 15 #[.pointer (some ⟨g, 0, none⟩), .slice A n c] w fun e w' => ∃ A' c', e = .returned (.tuple #[.slice A' N.length c', .int .i64 0]) ∧ Kd.R k31 31 w' w.heap.size (fun _ => True) (.slice A' N.length c') N ∧ RollB w' g R1 ∧ Below w0.heap.size w0 w' ∧ KeepBut w w' g none := by
  subst hn
  exact merge_ok w0 w g R R1 A c l N he hN hok hl hr hne hT hR hg hB
set_option maxRecDepth 100000 in
set_option maxHeartbeats 4000000 in
theorem order_walk (w : World) (A S : Option Addr) (c d : Nat) (l : List S31) (sw : List Int) (a0 : Int) (k : Nat) (hk : Int.tmod (wrap64 a0) 64 = k) (hk64 : k < 64) (hl : ∀ u ∈ l, OkU u) (hsw : ∀ s ∈ sw, 0 ≤ s ∧ s ≤ 255) (hr : Kd.C k31 w A l.length l) (hrs : Kd.C (Kd.int .u8) w S sw.length sw) (hT : Aside0 (TabT w)) :
    Calls Tryd.prog 6 #[.int .u8 a0, .slice A l.length c, .slice S sw.length d] w fun e w' => e = .returned (.bool true) ∧ Below w.heap.size w w' := by
  have HL := Aside0.mk hr
  have HSW := Aside0.mk hrs
  have HSWF := Aside0.mk hsw
  have hllen : (l.length : Int) ≤ 9223372036854775807 := by have := hr.2.1; omega
  have hslen : (sw.length : Int) ≤ 9223372036854775807 := by have := hrs.2.1; omega
  have HP := Aside0.mk (tab_pos hT.out)
  obtain ⟨X, hX⟩ : ∃ X, l.filter (fun u : S31 => u.f0 != (k : Int)) = X := ⟨_, rfl⟩
  have HUX : Aside0 (∀ u ∈ X, OkU u) := ⟨by rw [← hX]; exact fun u hu => hl u (List.mem_filter.1 hu).1⟩
  have HXF : Aside0 (∀ u ∈ X, u.f0 ≠ (k : Int)) := ⟨by rw [← hX]; exact fun u hu => bne_iff_ne.1 (List.mem_filter.1 hu).2⟩
  have HX := Aside0.mk hX
  have hXle : X.length ≤ l.length := by rw [← hX]; exact List.length_filter_le _ _
  clear hr hrs hl hsw hX
  by_cases hc0 : 60 < l.length
  · have h1 : decide ((60 : Int) < (l.length : Int)) = true := decide_eq_true (by omega)
    have h2 : decide (60 < l.length) = true := decide_eq_true hc0
    clear hc0
    go_enter Tryd.func6, Tryd.ntmps6
    go_wp2_with (go_at_call 10; refine (shown_walk _ hT).mono ?_; rintro e w1 ⟨rfl, hb⟩; have HB1 := Aside0.mk hb; clear hb)
    go_ret
    exact ⟨rfl, HB1.out⟩
  by_cases hc1 : 100 < sw.length
  · have h1 : decide ((100 : Int) < (sw.length : Int)) = true := decide_eq_true (by omega)
    have h2 : decide (100 < sw.length) = true := decide_eq_true hc1
    have h3 : decide ((60 : Int) < (l.length : Int)) = false := decide_eq_false (by omega)
    have h4 : decide (60 < l.length) = false := decide_eq_false hc0
    clear hc0 hc1
    go_enter Tryd.func6, Tryd.ntmps6
    go_wp2_with (go_at_call 10; refine (shown_walk _ hT).mono ?_; rintro e w1 ⟨rfl, hb⟩; have HB1 := Aside0.mk hb; clear hb)
    go_ret
    exact ⟨rfl, HB1.out⟩
  have h01 : decide ((60 : Int) < (l.length : Int)) = false := decide_eq_false (by omega)
  have h02 : decide (60 < l.length) = false := decide_eq_false hc0
  have hlen0 : l.length ≤ 60 := by omega
  have h11 : decide ((100 : Int) < (sw.length : Int)) = false := decide_eq_false (by omega)
  have h12 : decide (100 < sw.length) = false := decide_eq_false hc1
  have hlen1 : sw.length ≤ 100 := by omega
  clear hc0 hc1
  have HV0 := Aside0.mk (RV.new k hk64)
  obtain ⟨Ra, hha, hOa, hka⟩ := (OInv.new k hk64 X).hearL X HUX.out (fun _ h => h) HXF.out
  have HHa := Aside0.mk hha
  have HOa := Aside0.mk hOa
  have HKa := Aside0.mk hka
  obtain ⟨N0, hN0⟩ : ∃ N, newsL (newR k) Ra = N := ⟨_, rfl⟩
  have HN0 := Aside0.mk hN0
  have T1 := Aside0.mk trivial
  have T2 := Aside0.mk trivial
  clear hha hOa hka hN0
  go_enter Tryd.func6, Tryd.ntmps6
  go_wp2_with (first
    | (go_at_call 10; refine (shown_walk _ hT).mono ?_; rintro e w1 ⟨rfl, hb⟩; have HB1 := Aside0.mk hb; clear hb)
    | (go_at_call 11; have tk := T1; refine (new_any _ k hk64).mono ?_; rintro e w2 ⟨gr, rfl, hR_, hg_, hb_⟩; have HR2 := Aside0.mk hR_; have HGr : Aside0 (w.heap.size ≤ gr) := ⟨Nat.le_trans HB1.out.size hg_⟩; have HB2 := Aside0.mk (below_step HB1.out hb_); clear hR_ hg_ hb_ T1 tk)
    | (go_at_call 11; have tk := T2; (with_reducible refine (new_any _ k hk64).mono ?_); rintro e w3 ⟨gs, rfl, hS_, hg_, hb_⟩; have HS3 := Aside0.mk hS_; have HGs : Aside0 (w.heap.size ≤ gs) := ⟨Nat.le_trans HB2.out.size hg_⟩; have HR3 := Aside0.mk (RollB.below (R := newR k) HR2.out hb_); have HB3 := Aside0.mk (below_step HB2.out hb_); have ngr : gr ≠ gs := (by have := blk_lt HR2.out; omega); have ngs : gs ≠ gr := Ne.symm ngr; clear hS_ hg_ hb_ T2 tk)
    | ((with_reducible refine gate_dst (N := 43) rfl ?_); refine Kd.R_lit k31 _ 31 ?hg (N := 43) ?hd (xs := ([] : List S31)) (inner := []) (ok := fun _ => True) (okp := fun _ => True) ?hr ?hp (fun _ hk => hk) trivial (Below.refl _ _) (Nat.le_refl _) (by simp) ?_; (case hd => rfl); (case hg => rfl); (case hr => first | (go_simp; done) | (go_simp; rfl)); (case hp => exact (Reps.none _ _)); intro v_ wl1 ho_ hb_ hg_ hnew_; have HOl1 := Aside0.mk ho_; have HBl1 := Aside0.mk hb_; clear ho_ hb_ hg_ hnew_))
  go_loopw [10, 11] (fun v i wr => ∃ j : Nat, i = .int .i64 j ∧ Aside0 (j ≤ l.length) ∧ Aside0 (Kd.R k31 31 wr w3.heap.size (fun _ => True) v ((l.take j).filter (fun u : S31 => u.f0 != (k : Int)))) ∧ Aside0 (Below w3.heap.size w3 wr))
    (fun _ i _ => l.length - (intOf i).toNat)
  case atStart => exact ⟨0, rfl, ⟨Nat.zero_le _⟩, ⟨by rw [List.take_zero, List.filter_nil]; exact HOl1.out⟩, HBl1⟩
  case round =>
    rename_i vx wrx
    clear HOl1 HBl1
    obtain ⟨j, rfl, hj, HO, HB⟩ := hrel
    by_cases hlt : j < l.length
    · obtain ⟨ad, e, hy0, hy1, hy2⟩ := at_T31 HL.out (j : Int) (by omega) (by omega)
      simp only [Int.toNat_natCast] at hy0 hy1 hy2
      obtain rfl := e
      have hta := filt_take (fun u : S31 => u.f0 != (k : Int)) l j hlt
      have hle : ((l.take j).filter (fun u : S31 => u.f0 != (k : Int))).length ≤ 60 := Nat.le_trans (List.length_filter_le _ _) (by rw [List.length_take]; omega)
      obtain ⟨p, hp⟩ : ∃ p, p = rd_T31 l (j : Int) := ⟨_, rfl⟩
      rw [← hp] at hy0 hy1 hy2 hta
      clear hp
      have hBw := below_step HB3.out HB.out
      have hx0 := (hBw.cell (World.block_lt_of_cell? w _ hy0)).trans hy0
      have hx1 := (hBw.cell (World.block_lt_of_cell? w _ hy1)).trans hy1
      have hx2 := (hBw.cell (World.block_lt_of_cell? w _ hy2)).trans hy2
      clear hy0 hy1 hy2 hBw
      by_cases hne : p.f0 = (k : Int)
      · have hd : (p.f0 != (k : Int)) = false := by simp [hne]
        have hd2 : (p.f0 == (k : Int)) = true := beq_iff_eq.2 hne
        rw [if_neg (show ¬ (p.f0 != (k : Int)) = true by rw [hd]; decide)] at hta
        have HTA := Aside0.mk hta
        clear hta hne
        go_wp2
        go_roundw
        case rel => exact ⟨j + 1, by go_num, ⟨hlt⟩, ⟨by rw [HTA.out]; exact HO.out⟩, HB⟩
        case measure => simp [intOf]; omega
      · have hd : (p.f0 != (k : Int)) = true := bne_iff_ne.2 hne
        have hd2 : (p.f0 == (k : Int)) = false := beq_eq_false_iff_ne.2 hne
        rw [if_pos (show (p.f0 != (k : Int)) = true from hd)] at hta
        have HTA := Aside0.mk hta
        clear hta hne
        go_wp2_with ((with_reducible refine gate_builtin (b := .append) (xs := #[.tmp 57, .tmp 62]) rfl ?_); at_builtin; refine Kd.R_append k31 (w0 := w3) w3.heap.size rfl (.tmp 57) (.tmp 62) 22 31 (.agg #[(.int .i64 0), (.int .u64 0), (.int .i64 0)]) 24 rfl Tryd.underlying22 info31 rfl (by decide) (by omega) _ ((l.take j).filter (fun u : S31 => u.f0 != (k : Int))) p [.int .i64 p.f0, .int .u64 p.f1, .int .i64 p.f2] (fun _ => True) (fun _ => False) rfl rfl ?aP (fun _ hk => hk.elim) ?aF ?aO ?aB ?aS ?aL ?_; (case aP => exact k31_mkM _ _ _ p); (case aF => exact fun _ _ => trivial); (case aO => exact HO.out); (case aB => exact HB.out); (case aS => exact HB.out.size); (case aL => omega); intro v1 w2 ho hb2 hg hat; rw [← HTA.out] at ho; have HO2 := Aside0.mk ho; have HB2 := Aside0.mk hb2; clear ho hb2 hg hat)
        go_roundw
        case rel => exact ⟨j + 1, by go_num, ⟨hlt⟩, HO2, HB2⟩
        case measure => simp [intOf]; omega
    · obtain rfl : j = l.length := by have := hj.out; omega
      have hO := HO.out
      rw [List.take_length, HX.out] at hO
      obtain ⟨Ax, cx, rfl⟩ := Kd.R_slice hO
      have HOx := Aside0.mk hO
      have HBx := HB
      have HQx := Aside0.mk (below_step HB3.out HB.out)
      clear hj hlt HO HB hO
      have HR4 := Aside0.mk (RollB.below (R := newR k) HR3.out HBx.out)
      have HS4 := Aside0.mk (RollB.below (R := newR k) HS3.out HBx.out)
      have Gx := Aside0.mk (blk_lt HR3.out)
      have Gs := Aside0.mk (blk_lt HS3.out)
      have HM4 := Aside0.mk (MV.of_R HOx.out)
      go_wp2_with (go_at_call 15; refine (merge_ok w _ gr (newR k) Ra Ax cx X N0 HHa.out HN0.out HV0.out.inv.ok HUX.out (Kd.R_reads' HOx.out).2.2 (R_block HOx.out Gx.out) ⟨tab_belowN hT.out HP.out HQx.out⟩ HR4.out HGr.out HQx.out).mono ?_; rintro e wa ⟨Aa, ca, rfl, -, hR_, hB_, hK_⟩; have HRa := Aside0.mk hR_; have HQa := Aside0.mk hB_; have HSa : Aside0 (RollB wa gs (newR k)) := ⟨hK_.blk HS4.out ngs (by simp)⟩; have HMa := Aside0.mk (HM4.out.keep hK_ Gx.out); clear hR_ hB_ hK_)
      clear HR4 HS4 HM4 HOx HBx HQx HR3 HS3 HR2 HB2 HB1
      go_loopw [12] (fun i wr => ∃ (j : Nat) (Rb : RollS) (xs : List S31), i = .int .i64 j ∧ Aside0 (j ≤ sw.length) ∧ Aside0 (MV wr w3.heap.size Ax xs) ∧ Aside0 (xs.length = X.length) ∧ Aside0 (∀ u, u ∈ xs ↔ u ∈ X) ∧ Aside0 (OInv Rb k X) ∧ Aside0 (RollB wr gs Rb) ∧ Aside0 (RollB wr gr Ra) ∧ Aside0 (Below w.heap.size w wr))
        (fun i _ => sw.length - (intOf i).toNat)
      case atStart => exact ⟨0, newR k, X, rfl, ⟨Nat.zero_le _⟩, HMa, ⟨rfl⟩, ⟨fun _ => Iff.rfl⟩, ⟨OInv.new k hk64 X⟩, HSa, HRa, HQa⟩
      case round =>
        rename_i wr
        clear HMa HSa HRa HQa
        obtain ⟨j, Rb, xs, rfl, hj, HM, HXL, HXM, HOB, HS, HR, HB⟩ := hrel
        by_cases hlt : j < sw.length
        · by_cases hx0 : 0 < X.length
          · have hdx : decide ((0 : Int) < (X.length : Int)) = true := decide_eq_true (by omega)
            have hdx2 : decide (0 < X.length) = true := decide_eq_true hx0
            have hnz : ((X.length : Int) = 0) = False := eq_false (by omega)
            obtain ⟨ag, eg, hgb, hM⟩ := HM.out (by rw [HXL.out]; exact hx0)
            obtain rfl := eg
            obtain ⟨ad, e, hs0⟩ := Kd.at_int HSW.out (j : Int) (by omega) (by omega)
            simp only [Int.toNat_natCast] at hs0
            obtain rfl := e
            obtain ⟨x, hx, hxl⟩ := swap_at (HSWF.out (rd sw (j : Int)) (by unfold rd; rw [Int.toNat_natCast, List.getD_eq_getElem?_getD, List.getElem?_eq_getElem hlt]; exact List.getElem_mem hlt)) hx0
            obtain ⟨s, hs⟩ : ∃ s, s = rd sw (j : Int) := ⟨_, rfl⟩
            rw [← hs] at hs0 hx
            clear hs
            replace hs0 := (HB.out.cell (World.block_lt_of_cell? w _ hs0)).trans hs0
            obtain ⟨p, hp⟩ : ∃ p, xs[x]? = some p := ⟨_, List.getElem?_eq_getElem (by rw [HXL.out]; exact hxl)⟩
            obtain ⟨q, hq⟩ : ∃ q, xs[0]? = some q := ⟨_, List.getElem?_eq_getElem (by rw [HXL.out]; exact hx0)⟩
            obtain ⟨hp0, hp1, hp2⟩ := hM.at_ x p hp
            have px0 : ((0 : Int) ≤ (x : Int)) = True := eq_true (by omega)
            have pxl : ((x : Int) < (X.length : Int)) = True := eq_true (by omega)
            obtain ⟨⟨Rc, bb, ee⟩, hh⟩ : ∃ r, hearR Rb p = r := ⟨_, rfl⟩
            have hpX : p ∈ X := (HXM.out p).1 (List.mem_of_getElem? hp)
            have hOc := HOB.out.hear p (HUX.out p hpX) hpX (HXF.out p hpX)
            rw [hh] at hOc
            have HOC := Aside0.mk hOc
            have HHc := Aside0.mk hh
            have HUP := Aside0.mk (HUX.out p hpX)
            have HP2 := Aside0.mk hp
            have HQ := Aside0.mk hq
            have HMg := Aside0.mk hM
            have LG : Aside0 (w.heap.size ≤ ag) := ⟨Nat.le_trans HB3.out.size hgb⟩
            have nsg : Aside0 (gs ≠ ag) := ⟨by have := Gs.out; omega⟩
            have nrg : Aside0 (gr ≠ ag) := ⟨by have := Gx.out; omega⟩
            obtain ⟨r, hr2⟩ : ∃ r, (xs.set 0 p)[x]? = some r := ⟨_, List.getElem?_eq_getElem (by rw [List.length_set, HXL.out]; exact hxl)⟩
            have HR2 := Aside0.mk hr2
            have HGB := Aside0.mk hgb
            clear hpX hOc hh hp hq hM hr2 hgb
            go_upto_region 20 with (go_at_call 12; refine (hear_is w _ gs Rb p Rc _ _ HHc.out HOB.out.v.inv.ok HUP.out HS.out HGs.out HB.out).mono ?_; rintro e wd ⟨rfl, hR_, hB_, hK_⟩; have HSd := Aside0.mk hR_; have HBd := Aside0.mk hB_; have HRd : Aside0 (RollB wd gr Ra) := ⟨hK_.blk HR.out ngr (by simp)⟩; have HMd := Aside0.mk (HMg.out.keep hK_ (Ne.symm nsg.out)); clear hR_ hB_ hK_)
            clear hp0 hp1 hp2 hs0
            have HMx : Aside0 (MRow wd.drew ag xs) := ⟨HMd.out.drew⟩
            have HRo : Aside0 (RollB wd.drew gr Ra) := ⟨blk_drew HRd.out⟩
            have HSo : Aside0 (RollB wd.drew gs Rc) := ⟨blk_drew HSd.out⟩
            have HBo := Aside0.mk (below_drew1 HBd.out)
            have p0x : ((0 : Int) < (X.length : Int)) = True := eq_true (by omega)
            refine start_ (n := 14) (S := fun w' => w'.cell? ⟨ag, x * 3, none⟩ = some (.int .i64 p.f0) ∧ w'.cell? ⟨ag, x * 3 + 1, none⟩ = some (.int .u64 p.f1) ∧ w'.cell? ⟨ag, x * 3 + 2, none⟩ = some (.int .i64 p.f2) ∧ w'.cell? ⟨ag, 0, none⟩ = some (.int .i64 q.f0) ∧ w'.cell? ⟨ag, 1, none⟩ = some (.int .u64 q.f1) ∧ w'.cell? ⟨ag, 2, none⟩ = some (.int .i64 q.f2)) (ds := [11, 13]) #[false, false, false, false, false, false, false, false, false, false, false, false, false, false] (by kernel_rfl) rfl rfl ⟨(MRow.at_ HMx.out x p HP2.out).1, (MRow.at_ HMx.out x p HP2.out).2.1, (MRow.at_ HMx.out x p HP2.out).2.2, by have := (MRow.at_ HMx.out 0 q HQ.out).1; simpa using this, by have := (MRow.at_ HMx.out 0 q HQ.out).2.1; simpa using this, by have := (MRow.at_ HMx.out 0 q HQ.out).2.2; simpa using this⟩ (fun hHeld => ?_)
            generalize wd.drew = wx at HMx HRo HSo HBo hHeld ⊢
            refine pure_ (i := 0) (N := some 92) (v := ?_) (a' := ?_) #[true, false, false, false, false, false, false, false, false, false, false, false, false, false] rfl rfl (by kernel_rfl) (fun _ _ _ h => h) (Or.inl ⟨by rfl, ?_⟩) ?_ ?_
            rotate_left
            · intro w'
              go_simp
              first | done | with_reducible rfl | rfl | (simp [Instr.field, go_sem]; rfl)
            rotate_left
            · simp only [Act.put, List.setIfInBounds_toArray, List.set_cons_zero, List.set_cons_succ, i64_w, i32_w]
              rfl
            refine pure_ (i := 1) (N := some 93) (v := ?_) (a' := ?_) #[true, true, false, false, false, false, false, false, false, false, false, false, false, false] rfl rfl (by kernel_rfl) (fun _ _ _ h => h) (Or.inl ⟨by rfl, ?_⟩) ?_ ?_
            rotate_left
            · intro w'
              go_simp
              first | done | with_reducible rfl | rfl | (simp [Instr.field, go_sem]; rfl)
            rotate_left
            · simp only [Act.put, List.setIfInBounds_toArray, List.set_cons_zero, List.set_cons_succ, i64_w, i32_w]
              rfl
            refine pure_ (i := 2) (N := some 94) (v := ?_) (a' := ?_) #[true, true, true, false, false, false, false, false, false, false, false, false, false, false] rfl rfl (by kernel_rfl) (fun _ _ _ h => h) (Or.inl ⟨by rfl, ?_⟩) ?_ ?_
            rotate_left
            · intro w'
              go_simp
              first | done | with_reducible rfl | rfl | (simp [Instr.field, go_sem]; rfl)
            rotate_left
            · simp only [Act.put, List.setIfInBounds_toArray, List.set_cons_zero, List.set_cons_succ, i64_w, i32_w]
              rfl
            refine pure_ (i := 3) (N := some 95) (v := ?_) (a' := ?_) #[true, true, true, true, false, false, false, false, false, false, false, false, false, false] rfl rfl (by kernel_rfl) (fun _ _ _ h => h) (Or.inl ⟨by rfl, ?_⟩) ?_ ?_
            rotate_left
            · intro w'
              go_simp
              first | done | with_reducible rfl | rfl | (simp [Instr.field, go_sem]; rfl)
            rotate_left
            · simp only [Act.put, List.setIfInBounds_toArray, List.set_cons_zero, List.set_cons_succ, i64_w, i32_w]
              rfl
            refine pure_ (i := 4) (N := some 96) (v := ?_) (a' := ?_) #[true, true, true, true, true, false, false, false, false, false, false, false, false, false] rfl rfl (by kernel_rfl) (fun _ _ _ h => h) (Or.inl ⟨by rfl, ?_⟩) ?_ ?_
            rotate_left
            · intro w'
              go_simp
              first | done | with_reducible rfl | rfl | (simp [Instr.field, go_sem]; rfl)
            rotate_left
            · simp only [Act.put, List.setIfInBounds_toArray, List.set_cons_zero, List.set_cons_succ, i64_w, i32_w]
              rfl
            refine pure_ (i := 5) (N := some 97) (v := ?_) (a' := ?_) #[true, true, true, true, true, true, false, false, false, false, false, false, false, false] rfl rfl (by kernel_rfl) (fun _ _ _ h => h) (Or.inl ⟨by rfl, ?_⟩) ?_ ?_
            rotate_left
            · intro w'
              go_simp
              first | done | with_reducible rfl | rfl | (simp [Instr.field, go_sem]; rfl)
            rotate_left
            · simp only [Act.put, List.setIfInBounds_toArray, List.set_cons_zero, List.set_cons_succ, i64_w, i32_w]
              rfl
            refine pure_ (i := 7) (N := some 99) (v := ?_) (a' := ?_) #[true, true, true, true, true, true, false, true, false, false, false, false, false, false] rfl rfl (by kernel_rfl) (fun _ _ _ h => h) (Or.inl ⟨by rfl, ?_⟩) ?_ ?_
            rotate_left
            · intro w'
              go_simp
              first | done | with_reducible rfl | rfl | (simp [Instr.field, go_sem]; rfl)
            rotate_left
            · simp only [Act.put, List.setIfInBounds_toArray, List.set_cons_zero, List.set_cons_succ, i64_w, i32_w]
              rfl
            refine pure_ (i := 8) (N := some 100) (v := ?_) (a' := ?_) #[true, true, true, true, true, true, false, true, true, false, false, false, false, false] rfl rfl (by kernel_rfl) (fun _ _ _ h => h) (Or.inl ⟨by rfl, ?_⟩) ?_ ?_
            rotate_left
            · intro w'
              go_simp
              first | done | with_reducible rfl | rfl | (simp [Instr.field, go_sem]; rfl)
            rotate_left
            · simp only [Act.put, List.setIfInBounds_toArray, List.set_cons_zero, List.set_cons_succ, i64_w, i32_w]
              rfl
            refine take_ (i := 6) (N := some 98) (v := ?_) (a' := ?_) #[true, true, true, true, true, true, true, true, true, false, false, false, false, false] rfl rfl (by kernel_rfl) (fun _ _ _ h => h) (Or.inl ⟨by rfl, ?_⟩) hHeld ?_ ?_
            rotate_left
            · rintro w' ⟨s0, s1, s2, s3, s4, s5⟩
              go_simp
              first | done | with_reducible rfl | rfl | (simp [Instr.field, go_sem]; rfl)
            rotate_left
            · simp only [Act.put, List.setIfInBounds_toArray, List.set_cons_zero, List.set_cons_succ, i64_w, i32_w]
              rfl
            refine take_ (i := 9) (N := some 101) (v := ?_) (a' := ?_) #[true, true, true, true, true, true, true, true, true, true, false, false, false, false] rfl rfl (by kernel_rfl) (fun _ _ _ h => h) (Or.inl ⟨by rfl, ?_⟩) hHeld ?_ ?_
            rotate_left
            · rintro w' ⟨s0, s1, s2, s3, s4, s5⟩
              go_simp
              first | done | with_reducible rfl | rfl | (simp [Instr.field, go_sem]; rfl)
            rotate_left
            · simp only [Act.put, List.setIfInBounds_toArray, List.set_cons_zero, List.set_cons_succ, i64_w, i32_w]
              rfl
            refine pure_ (i := 10) (N := some 102) (v := ?_) (a' := ?_) #[true, true, true, true, true, true, true, true, true, true, true, false, false, false] rfl rfl (by kernel_rfl) (fun _ _ _ h => h) (Or.inl ⟨by rfl, ?_⟩) ?_ ?_
            rotate_left
            · intro w'
              go_simp
              first | done | with_reducible rfl | rfl | (simp [Instr.field, go_sem]; rfl)
            rotate_left
            · simp only [Act.put, List.setIfInBounds_toArray, List.set_cons_zero, List.set_cons_succ, i64_w, i32_w]
              rfl
            refine last_ (i := 11) (N := none) #[true, true, true, true, true, true, true, true, true, true, true, true, false, false] rfl rfl (by kernel_rfl) (by decide) (fun K hK => ?_)
            obtain ⟨c0, c1, c2⟩ : wx.cell? ⟨ag, 0, none⟩ = some (.int .i64 q.f0) ∧ wx.cell? ⟨ag, 1, none⟩ = some (.int .u64 q.f1) ∧ wx.cell? ⟨ag, 2, none⟩ = some (.int .i64 q.f2) := ⟨(MRow.at_ HMx.out 0 q HQ.out).1, (MRow.at_ HMx.out 0 q HQ.out).2.1, (MRow.at_ HMx.out 0 q HQ.out).2.2⟩
            have fr := fun j => MRow.free HMx.out j
            refine skip_ (w1 := ?_) (by rfl) rfl ?_ ?_
            rotate_left
            · go_simp
              rfl
            refine hK _ _ ?_
            clear hK K
            have HMy : Aside0 (MRow (((wx.setCell ⟨ag, 0, none⟩ (.int .i64 p.f0)).setCell ⟨ag, 1, none⟩ (.int .u64 p.f1)).setCell ⟨ag, 2, none⟩ (.int .i64 p.f2)) ag (xs.set 0 p)) := ⟨by have := MRow.put HMx.out 0 (by (try rw [List.length_set]); rw [HXL.out]; omega) p; (try simp only [Nat.zero_mul, Nat.zero_add] at this); exact this⟩
            have HRn := Aside0.mk (RollB.far (R := Ra) (RollB.far (R := Ra) (RollB.far (R := Ra) HRo.out nrg.out (p := ⟨ag, 0, none⟩) (.int .i64 p.f0)) nrg.out (p := ⟨ag, 1, none⟩) (.int .u64 p.f1)) nrg.out (p := ⟨ag, 2, none⟩) (.int .i64 p.f2))
            have HSn := Aside0.mk (RollB.far (R := Rc) (RollB.far (R := Rc) (RollB.far (R := Rc) HSo.out nsg.out (p := ⟨ag, 0, none⟩) (.int .i64 p.f0)) nsg.out (p := ⟨ag, 1, none⟩) (.int .u64 p.f1)) nsg.out (p := ⟨ag, 2, none⟩) (.int .i64 p.f2))
            have HBn : Aside0 (Below w.heap.size w (((wx.setCell ⟨ag, 0, none⟩ (.int .i64 p.f0)).setCell ⟨ag, 1, none⟩ (.int .u64 p.f1)).setCell ⟨ag, 2, none⟩ (.int .i64 p.f2))) := ⟨below_set (below_set (below_set HBo.out LG.out) LG.out) LG.out⟩
            clear c0 c1 c2 fr HRo HSo HBo HMx
            generalize ((wx.setCell ⟨ag, 0, none⟩ (.int .i64 p.f0)).setCell ⟨ag, 1, none⟩ (.int .u64 p.f1)).setCell ⟨ag, 2, none⟩ (.int .i64 p.f2) = wy at HMy HRn HSn HBn ⊢
            have HRo := HRn
            have HSo := HSn
            have HBo := HBn
            clear HRn HSn HBn
            refine pure_ (i := 12) (N := some 103) (v := ?_) (a' := ?_) #[true, true, true, true, true, true, true, true, true, true, true, true, true, false] rfl rfl (by kernel_rfl) (fun _ _ _ h => h) (Or.inl ⟨by rfl, ?_⟩) ?_ ?_
            rotate_left
            · intro w'
              go_simp
              first | done | with_reducible rfl | rfl | (simp [Instr.field, go_sem]; rfl)
            rotate_left
            · simp only [Act.put, List.setIfInBounds_toArray, List.set_cons_zero, List.set_cons_succ, i64_w, i32_w]
              rfl
            refine last_ (i := 13) (N := none) #[true, true, true, true, true, true, true, true, true, true, true, true, true, true] rfl rfl (by kernel_rfl) (by decide) (fun K hK => ?_)
            obtain ⟨c0, c1, c2⟩ : wy.cell? ⟨ag, x * 3, none⟩ = some (.int .i64 r.f0) ∧ wy.cell? ⟨ag, x * 3 + 1, none⟩ = some (.int .u64 r.f1) ∧ wy.cell? ⟨ag, x * 3 + 2, none⟩ = some (.int .i64 r.f2) := MRow.at_ HMy.out x r HR2.out
            have fr := fun j => MRow.free HMy.out j
            refine skip_ (w1 := ?_) (by rfl) rfl ?_ ?_
            rotate_left
            · go_simp
              rfl
            refine hK _ _ ?_
            clear hK K
            have HMz : Aside0 (MRow (((wy.setCell ⟨ag, x * 3, none⟩ (.int .i64 q.f0)).setCell ⟨ag, x * 3 + 1, none⟩ (.int .u64 q.f1)).setCell ⟨ag, x * 3 + 2, none⟩ (.int .i64 q.f2)) ag (swp xs x p q)) := ⟨by have := MRow.put HMy.out x (by (try rw [List.length_set]); rw [HXL.out]; omega) q; (try simp only [Nat.zero_mul, Nat.zero_add] at this); exact this⟩
            have HRn := Aside0.mk (RollB.far (R := Ra) (RollB.far (R := Ra) (RollB.far (R := Ra) HRo.out nrg.out (p := ⟨ag, x * 3, none⟩) (.int .i64 q.f0)) nrg.out (p := ⟨ag, x * 3 + 1, none⟩) (.int .u64 q.f1)) nrg.out (p := ⟨ag, x * 3 + 2, none⟩) (.int .i64 q.f2))
            have HSn := Aside0.mk (RollB.far (R := Rc) (RollB.far (R := Rc) (RollB.far (R := Rc) HSo.out nsg.out (p := ⟨ag, x * 3, none⟩) (.int .i64 q.f0)) nsg.out (p := ⟨ag, x * 3 + 1, none⟩) (.int .u64 q.f1)) nsg.out (p := ⟨ag, x * 3 + 2, none⟩) (.int .i64 q.f2))
            have HBn : Aside0 (Below w.heap.size w (((wy.setCell ⟨ag, x * 3, none⟩ (.int .i64 q.f0)).setCell ⟨ag, x * 3 + 1, none⟩ (.int .u64 q.f1)).setCell ⟨ag, x * 3 + 2, none⟩ (.int .i64 q.f2))) := ⟨below_set (below_set (below_set HBo.out LG.out) LG.out) LG.out⟩
            clear c0 c1 c2 fr HRo HSo HBo HMy
            generalize ((wy.setCell ⟨ag, x * 3, none⟩ (.int .i64 q.f0)).setCell ⟨ag, x * 3 + 1, none⟩ (.int .u64 q.f1)).setCell ⟨ag, x * 3 + 2, none⟩ (.int .i64 q.f2) = wz at HMz HRn HSn HBn ⊢
            have HRo := HRn
            have HSo := HSn
            have HBo := HBn
            clear HRn HSn HBn
            refine done_ (by kernel_rfl) ?_
            clear hHeld
            go_wp2
            go_roundw
            case rel => exact ⟨j + 1, Rc, swp xs x p q, by go_num, ⟨hlt⟩, ⟨fun _ => ⟨ag, rfl, HGB.out, HMz.out⟩⟩, ⟨by rw [swp_len]; exact HXL.out⟩, ⟨fun u => (swp_mem (by rw [HXL.out]; exact hxl) HP2.out HQ.out u).trans (HXM.out u)⟩, HOC, HSo, HRo, HBo⟩
            case measure => simp [intOf]; omega
          · have hdx : decide ((0 : Int) < (X.length : Int)) = false := decide_eq_false (by omega)
            have hdx2 : decide (0 < X.length) = false := decide_eq_false hx0
            obtain ⟨Rb1, hb1, hO1, hk1⟩ := HOB.out.hearL xs (fun u hu => HUX.out u ((HXM.out u).1 hu)) (fun u hu => (HXM.out u).1 hu) (fun u hu => HXF.out u ((HXM.out u).1 hu))
            obtain ⟨Rb2, hb2, hO2, hk2⟩ := hO1.hearL xs (fun u hu => HUX.out u ((HXM.out u).1 hu)) (fun u hu => (HXM.out u).1 hu) (fun u hu => HXF.out u ((HXM.out u).1 hu))
            have hsame := order_same HOa.out hO2 HKa.out (fun u hu => hk2 u ((HXM.out u).2 hu))
            obtain ⟨N1, hN1⟩ : ∃ N, newsL Rb Rb1 = N := ⟨_, rfl⟩
            obtain ⟨N2, hN2⟩ : ∃ N, newsL Rb1 Rb2 = N := ⟨_, rfl⟩
            obtain ⟨L, hL⟩ : ∃ L, allL Rb2 = L := ⟨_, rfl⟩
            rw [hL] at hsame
            have hLl : L.length ≤ 64 := by rw [← hL]; exact allL_len Rb2
            have HN1 := Aside0.mk hN1
            have HN2 := Aside0.mk hN2
            have HLb := Aside0.mk hL
            have HLa := Aside0.mk hsame
            have HE1 := Aside0.mk hb1
            have HE2 := Aside0.mk hb2
            have HO1 := Aside0.mk hO1
            have HO2 := Aside0.mk hO2
            have hxs60 : Aside0 (xs.length ≤ 60) := ⟨by rw [HXL.out]; omega⟩
            have HUxs : Aside0 (∀ u ∈ xs, OkU u) := ⟨fun u hu => HUX.out u ((HXM.out u).1 hu)⟩
            have T1 := Aside0.mk trivial
            have T2 := Aside0.mk trivial
            have T3 := Aside0.mk trivial
            have T4 := Aside0.mk trivial
            clear hb1 hO1 hk1 hb2 hO2 hk2 hsame hN1 hN2 hL
            go_wp2_with (first
              | (go_at_call 15; have tk := T1; refine (merge_okn w _ gs Rb Rb1 Ax cx xs N1 X.length HXL.out HE1.out HN1.out HOB.out.v.inv.ok HUxs.out (HM.out.C hxs60.out) (HM.out.ne Gs.out) ⟨tab_belowN hT.out HP.out HB.out⟩ HS.out HGs.out HB.out).mono ?_; rintro e wb ⟨Ab, cb, rfl, -, hR_, hB_, hK_⟩; have HSb := Aside0.mk hR_; have HBb := Aside0.mk hB_; have HRb : Aside0 (RollB wb gr Ra) := ⟨hK_.blk HR.out ngr (by simp)⟩; have HMb := Aside0.mk (HM.out.keep hK_ Gs.out); clear hR_ hB_ hK_ T1 tk)
              | (go_at_call 15; have tk := T2; refine (merge_okn w _ gs Rb1 Rb2 Ax cx xs N2 X.length HXL.out HE2.out HN2.out HO1.out.v.inv.ok HUxs.out (HMb.out.C hxs60.out) (HMb.out.ne Gs.out) ⟨tab_belowN hT.out HP.out HBb.out⟩ HSb.out HGs.out HBb.out).mono ?_; rintro e wc ⟨Ac, cc, rfl, -, hR_, hB_, hK_⟩; have HSc := Aside0.mk hR_; have HBc := Aside0.mk hB_; have HRc : Aside0 (RollB wc gr Ra) := ⟨hK_.blk HRb.out ngr (by simp)⟩; have HMc := Aside0.mk (HMb.out.keep hK_ Gs.out); clear hR_ hB_ hK_ T2 tk)
              | (go_at_call 16; have tk := T3; refine (all_is _ gr Ra L HLa.out HOa.out.v.inv.ok ⟨tab_belowN hT.out HP.out HBc.out⟩ HRc.out).mono ?_; rintro e wd ⟨Ad, cd, rfl, hc_, ho_, hb_⟩; have HOd := Aside0.mk ho_; have HCd := Aside0.mk hc_; have HRd := Aside0.mk (RollB.below (R := Ra) HRc.out hb_); have HSd := Aside0.mk (RollB.below (R := Rb2) HSc.out hb_); have HBd := Aside0.mk (below_step HBc.out hb_); have HMd := Aside0.mk (HMc.out.below hb_); clear ho_ hc_ hb_ T3 tk)
              | (go_at_call 16; have tk := T4; refine (all_is _ gs Rb2 L HLb.out HO2.out.v.inv.ok ⟨tab_belowN hT.out HP.out HBd.out⟩ HSd.out).mono ?_; rintro e we ⟨Ae, ce, rfl, hc_, ho_, hb_⟩; have HOe := Aside0.mk ho_; have HCe := Aside0.mk hc_; have HRe := Aside0.mk (RollB.below (R := Ra) HRd.out hb_); have HBe := Aside0.mk (below_step HBd.out hb_); have HMe := Aside0.mk (HMd.out.below hb_); have HOd2 := Aside0.mk (Kd.R_below HOd.out hb_); clear ho_ hc_ hb_ T4 tk)
              | (go_at_call 17; refine (same_is _ Ad Ae cd ce L (Kd.R_reads' HOd2.out).2.2 HCd.out (Kd.R_reads' HOe.out).2.2 HCe.out).mono ?_; rintro e wz ⟨rfl, hb_⟩; have HQz := Aside0.mk (below_step HBe.out hb_); have HRz := Aside0.mk (RollB.below (R := Ra) HRe.out hb_); have HMz := Aside0.mk (HMe.out.below hb_); clear hb_))
            clear HM HS HR HB HSb HBb HRb HMb HSc HBc HRc HMc HOd HRd HSd HBd HMd HOe HRe HBe HMe HOd2 hj
            go_loopw [14] (fun i wr => ∃ j : Nat, i = .int .i64 j ∧ Aside0 (j ≤ X.length) ∧ Aside0 (Below wz.heap.size wz wr))
              (fun i _ => X.length - (intOf i).toNat)
            case atStart => exact ⟨0, rfl, ⟨Nat.zero_le _⟩, ⟨Below.refl _ _⟩⟩
            case round =>
              obtain ⟨j, rfl, hj, HB⟩ := hrel
              by_cases hlt : j < X.length
              · exact absurd hlt (by omega)
              · obtain rfl : j = X.length := by have := hj.out; omega
                go_wp2
                go_ret
                exact ⟨rfl, below_step HQz.out HB.out⟩
        · obtain rfl : j = sw.length := by have := hj.out; omega
          obtain ⟨Rb1, hb1, hO1, hk1⟩ := HOB.out.hearL xs (fun u hu => HUX.out u ((HXM.out u).1 hu)) (fun u hu => (HXM.out u).1 hu) (fun u hu => HXF.out u ((HXM.out u).1 hu))
          obtain ⟨Rb2, hb2, hO2, hk2⟩ := hO1.hearL xs (fun u hu => HUX.out u ((HXM.out u).1 hu)) (fun u hu => (HXM.out u).1 hu) (fun u hu => HXF.out u ((HXM.out u).1 hu))
          have hsame := order_same HOa.out hO2 HKa.out (fun u hu => hk2 u ((HXM.out u).2 hu))
          obtain ⟨N1, hN1⟩ : ∃ N, newsL Rb Rb1 = N := ⟨_, rfl⟩
          obtain ⟨N2, hN2⟩ : ∃ N, newsL Rb1 Rb2 = N := ⟨_, rfl⟩
          obtain ⟨L, hL⟩ : ∃ L, allL Rb2 = L := ⟨_, rfl⟩
          rw [hL] at hsame
          have hLl : L.length ≤ 64 := by rw [← hL]; exact allL_len Rb2
          have HN1 := Aside0.mk hN1
          have HN2 := Aside0.mk hN2
          have HLb := Aside0.mk hL
          have HLa := Aside0.mk hsame
          have HE1 := Aside0.mk hb1
          have HE2 := Aside0.mk hb2
          have HO1 := Aside0.mk hO1
          have HO2 := Aside0.mk hO2
          have hxs60 : Aside0 (xs.length ≤ 60) := ⟨by rw [HXL.out]; omega⟩
          have HUxs : Aside0 (∀ u ∈ xs, OkU u) := ⟨fun u hu => HUX.out u ((HXM.out u).1 hu)⟩
          have T1 := Aside0.mk trivial
          have T2 := Aside0.mk trivial
          have T3 := Aside0.mk trivial
          have T4 := Aside0.mk trivial
          clear hb1 hO1 hk1 hb2 hO2 hk2 hsame hN1 hN2 hL
          go_wp2_with (first
            | (go_at_call 15; have tk := T1; refine (merge_okn w _ gs Rb Rb1 Ax cx xs N1 X.length HXL.out HE1.out HN1.out HOB.out.v.inv.ok HUxs.out (HM.out.C hxs60.out) (HM.out.ne Gs.out) ⟨tab_belowN hT.out HP.out HB.out⟩ HS.out HGs.out HB.out).mono ?_; rintro e wb ⟨Ab, cb, rfl, -, hR_, hB_, hK_⟩; have HSb := Aside0.mk hR_; have HBb := Aside0.mk hB_; have HRb : Aside0 (RollB wb gr Ra) := ⟨hK_.blk HR.out ngr (by simp)⟩; have HMb := Aside0.mk (HM.out.keep hK_ Gs.out); clear hR_ hB_ hK_ T1 tk)
            | (go_at_call 15; have tk := T2; refine (merge_okn w _ gs Rb1 Rb2 Ax cx xs N2 X.length HXL.out HE2.out HN2.out HO1.out.v.inv.ok HUxs.out (HMb.out.C hxs60.out) (HMb.out.ne Gs.out) ⟨tab_belowN hT.out HP.out HBb.out⟩ HSb.out HGs.out HBb.out).mono ?_; rintro e wc ⟨Ac, cc, rfl, -, hR_, hB_, hK_⟩; have HSc := Aside0.mk hR_; have HBc := Aside0.mk hB_; have HRc : Aside0 (RollB wc gr Ra) := ⟨hK_.blk HRb.out ngr (by simp)⟩; have HMc := Aside0.mk (HMb.out.keep hK_ Gs.out); clear hR_ hB_ hK_ T2 tk)
            | (go_at_call 16; have tk := T3; refine (all_is _ gr Ra L HLa.out HOa.out.v.inv.ok ⟨tab_belowN hT.out HP.out HBc.out⟩ HRc.out).mono ?_; rintro e wd ⟨Ad, cd, rfl, hc_, ho_, hb_⟩; have HOd := Aside0.mk ho_; have HCd := Aside0.mk hc_; have HRd := Aside0.mk (RollB.below (R := Ra) HRc.out hb_); have HSd := Aside0.mk (RollB.below (R := Rb2) HSc.out hb_); have HBd := Aside0.mk (below_step HBc.out hb_); have HMd := Aside0.mk (HMc.out.below hb_); clear ho_ hc_ hb_ T3 tk)
            | (go_at_call 16; have tk := T4; refine (all_is _ gs Rb2 L HLb.out HO2.out.v.inv.ok ⟨tab_belowN hT.out HP.out HBd.out⟩ HSd.out).mono ?_; rintro e we ⟨Ae, ce, rfl, hc_, ho_, hb_⟩; have HOe := Aside0.mk ho_; have HCe := Aside0.mk hc_; have HRe := Aside0.mk (RollB.below (R := Ra) HRd.out hb_); have HBe := Aside0.mk (below_step HBd.out hb_); have HMe := Aside0.mk (HMd.out.below hb_); have HOd2 := Aside0.mk (Kd.R_below HOd.out hb_); clear ho_ hc_ hb_ T4 tk)
            | (go_at_call 17; refine (same_is _ Ad Ae cd ce L (Kd.R_reads' HOd2.out).2.2 HCd.out (Kd.R_reads' HOe.out).2.2 HCe.out).mono ?_; rintro e wz ⟨rfl, hb_⟩; have HQz := Aside0.mk (below_step HBe.out hb_); have HRz := Aside0.mk (RollB.below (R := Ra) HRe.out hb_); have HMz := Aside0.mk (HMe.out.below hb_); clear hb_))
          clear HM HS HR HB HSb HBb HRb HMb HSc HBc HRc HMc HOd HRd HSd HBd HMd HOe HRe HBe HMe HOd2 hj
          go_loopw [14] (fun i wr => ∃ j : Nat, i = .int .i64 j ∧ Aside0 (j ≤ X.length) ∧ Aside0 (Below wz.heap.size wz wr))
            (fun i _ => X.length - (intOf i).toNat)
          case atStart => exact ⟨0, rfl, ⟨Nat.zero_le _⟩, ⟨Below.refl _ _⟩⟩
          case round =>
            obtain ⟨j, rfl, hj, HB⟩ := hrel
            by_cases hlt : j < X.length
            · obtain ⟨ag, eg, hgb, hM⟩ := HMz.out (by rw [HXL.out]; omega)
              obtain rfl := eg
              obtain ⟨p, hp⟩ : ∃ p, xs[j]? = some p := ⟨_, List.getElem?_eq_getElem (by rw [HXL.out]; exact hlt)⟩
              obtain ⟨hp0, hp1, hp2⟩ := (hM.below HB.out).at_ j p hp
              have hk := HKa.out p ((HXM.out p).1 (List.mem_of_getElem? hp))
              have HPJ := Aside0.mk hp
              have HMM := Aside0.mk hM
              have hmf := ref06_may p.f0 p.f1 p.f2
              clear hp hM hgb
              cases hm : mayS p
              · have hmf2 : conventicleref06_May.f p.f0 p.f1 p.f2 = some false := by rw [hmf]; exact congrArg some hm
                have HMAY := Aside0.mk hmf2
                obtain ⟨⟨u, bb⟩, hg⟩ : ∃ q, getR Ra p.f0 = q := ⟨_, rfl⟩
                have HG := Aside0.mk hg
                clear hm hmf hmf2 hk hg
                go_upto_region 29 with (first | (go_at_call 14; (with_reducible refine (get_is _ gr Ra p.f0 u bb HG.out HOa.out.v.inv.ok (RollB.below (R := Ra) HRz.out HB.out)).mono ?_); rintro e wg ⟨rfl, hb_⟩; have HBg := Aside0.mk (below_step HB.out hb_); clear hb_) | ((with_reducible refine gate_dst (N := 15) rfl ?_); refine box_event ?hg (N := 15) ?hd (cs := #[.int .i64 0, .int .u64 0, .int .i64 0]) (t := 31) ?hr ?_; (case hd => rfl); (case hg => rfl); (case hr => first | (go_simp; done) | (go_simp; rfl)); intro g15 hg_ wc hb_ hB_; have K15 := Aside0.mk hb_; have L15 := Aside0.mk (show wz.heap.size ≤ g15 from (by rw [hg_]; exact HBg.out.size)); have HBc := Aside0.mk (below_step HBg.out hB_); have z0 := (blk_cell K15.out 0).trans rfl; have z1 := (blk_cell K15.out 1).trans rfl; have z2 := (blk_cell K15.out 2).trans rfl; have zf := fun j => blk_frozen K15.out j; clear hg_ hb_ hB_))
                have J15 : Aside0 ((((wc.setCell ⟨g15, 0, none⟩ (.int .i64 u.f0)).setCell ⟨g15, 1, none⟩ (.int .u64 u.f1)).setCell ⟨g15, 2, none⟩ (.int .i64 u.f2)).heap[g15]? = some (.cells #[.int .i64 u.f0, .int .u64 u.f1, .int .i64 u.f2] 31 (0, 0))) := ⟨blk_put (cs := #[.int .i64 u.f0, .int .u64 u.f1, .int .i64 0]) (blk_put (cs := #[.int .i64 u.f0, .int .u64 0, .int .i64 0]) (blk_put (cs := #[.int .i64 0, .int .u64 0, .int .i64 0]) K15.out 0 _ rfl) 1 _ rfl) 2 _ rfl⟩
                have HBd : Aside0 (Below wz.heap.size wz (((wc.setCell ⟨g15, 0, none⟩ (.int .i64 u.f0)).setCell ⟨g15, 1, none⟩ (.int .u64 u.f1)).setCell ⟨g15, 2, none⟩ (.int .i64 u.f2))) := ⟨below_set (below_set (below_set HBc.out L15.out) L15.out) L15.out⟩
                clear z0 z1 z2 zf HBc K15 L15
                generalize ((wc.setCell ⟨g15, 0, none⟩ (.int .i64 u.f0)).setCell ⟨g15, 1, none⟩ (.int .u64 u.f1)).setCell ⟨g15, 2, none⟩ (.int .i64 u.f2) = wd at J15 HBd ⊢
                clear HBg hp0 hp1 hp2
                have HMx : Aside0 (MRow wd.drew ag xs) := ⟨(HMM.out.below HBd.out).drew⟩
                have Jx : Aside0 (wd.drew.heap[g15]? = some (.cells #[.int .i64 u.f0, .int .u64 u.f1, .int .i64 u.f2] 31 (0, 0))) := ⟨blk_drew J15.out⟩
                have HBx := Aside0.mk (below_drew1 HBd.out)
                refine start_ (n := 17) (S := fun w' => w'.cell? ⟨ag, j * 3, none⟩ = some (.int .i64 p.f0) ∧ w'.cell? ⟨ag, j * 3 + 1, none⟩ = some (.int .u64 p.f1) ∧ w'.cell? ⟨ag, j * 3 + 2, none⟩ = some (.int .i64 p.f2) ∧ w'.cell? ⟨g15, 0, none⟩ = some (.int .i64 u.f0) ∧ w'.cell? ⟨g15, 1, none⟩ = some (.int .u64 u.f1) ∧ w'.cell? ⟨g15, 2, none⟩ = some (.int .i64 u.f2)) (ds := []) #[false, false, false, false, false, false, false, false, false, false, false, false, false, false, false, false, false] (by kernel_rfl) rfl rfl ⟨(MRow.at_ HMx.out j p HPJ.out).1, (MRow.at_ HMx.out j p HPJ.out).2.1, (MRow.at_ HMx.out j p HPJ.out).2.2, (blk_cell Jx.out 0).trans rfl, (blk_cell Jx.out 1).trans rfl, (blk_cell Jx.out 2).trans rfl⟩ (fun hHeld => ?_)
                generalize wd.drew = wx at HMx Jx HBx hHeld ⊢
                refine pure_ (i := 0) (N := some 132) (v := ?_) (a' := ?_) #[true, false, false, false, false, false, false, false, false, false, false, false, false, false, false, false, false] rfl rfl (by kernel_rfl) (fun _ _ _ h => h) (Or.inl ⟨by rfl, ?_⟩) ?_ ?_
                rotate_left
                · intro w'
                  go_simp
                  first | done | with_reducible rfl | rfl | (simp [Instr.field, go_sem]; rfl)
                rotate_left
                · simp only [Act.put, List.setIfInBounds_toArray, List.set_cons_zero, List.set_cons_succ, i64_w, i32_w]
                  rfl
                refine pure_ (i := 1) (N := some 133) (v := ?_) (a' := ?_) #[true, true, false, false, false, false, false, false, false, false, false, false, false, false, false, false, false] rfl rfl (by kernel_rfl) (fun _ _ _ h => h) (Or.inl ⟨by rfl, ?_⟩) ?_ ?_
                rotate_left
                · intro w'
                  go_simp
                  first | done | with_reducible rfl | rfl | (simp [Instr.field, go_sem]; rfl)
                rotate_left
                · simp only [Act.put, List.setIfInBounds_toArray, List.set_cons_zero, List.set_cons_succ, i64_w, i32_w]
                  rfl
                refine pure_ (i := 2) (N := some 134) (v := ?_) (a' := ?_) #[true, true, true, false, false, false, false, false, false, false, false, false, false, false, false, false, false] rfl rfl (by kernel_rfl) (fun _ _ _ h => h) (Or.inl ⟨by rfl, ?_⟩) ?_ ?_
                rotate_left
                · intro w'
                  go_simp
                  first | done | with_reducible rfl | rfl | (simp [Instr.field, go_sem]; rfl)
                rotate_left
                · simp only [Act.put, List.setIfInBounds_toArray, List.set_cons_zero, List.set_cons_succ, i64_w, i32_w]
                  rfl
                refine take_ (i := 3) (N := some 135) (v := ?_) (a' := ?_) #[true, true, true, true, false, false, false, false, false, false, false, false, false, false, false, false, false] rfl rfl (by kernel_rfl) (fun _ _ _ h => h) (Or.inl ⟨by rfl, ?_⟩) hHeld ?_ ?_
                rotate_left
                · rintro w' ⟨s0, s1, s2, s3, s4, s5⟩
                  go_simp
                  first | done | with_reducible rfl | rfl | (simp [Instr.field, go_sem]; rfl)
                rotate_left
                · simp only [Act.put, List.setIfInBounds_toArray, List.set_cons_zero, List.set_cons_succ, i64_w, i32_w]
                  rfl
                refine one_ (i := 4) (N := some 136) #[true, true, true, true, true, false, false, false, false, false, false, false, false, false, false, false, false] rfl rfl (by kernel_rfl) (by decide) (fun K hK => ?_)
                refine goes_ Tryd.func19 (by kernel_rfl) rfl #[.agg #[.int .i64 p.f0, .int .u64 p.f1, .int .i64 p.f2]] (by rfl) rfl rfl (by (try simp only [List.map_toArray, List.map_cons, List.map_nil]); first | done | rfl) ?_
                refine (conventicleref06_May.calls p.f0 p.f1 p.f2 false _ HMAY.out).mono ?_
                rintro e wq ⟨rfl, hb_⟩
                refine ⟨_, rfl, ?_⟩
                have HMy := Aside0.mk (HMx.out.below hb_)
                have Jy : Aside0 (wq.heap[g15]? = some (.cells #[.int .i64 u.f0, .int .u64 u.f1, .int .i64 u.f2] 31 (0, 0))) := ⟨blk_below Jx.out hb_⟩
                have HBy := Aside0.mk (below_step HBx.out hb_)
                clear HMx Jx HBx hHeld hb_
                have HMx := HMy
                have Jx := Jy
                have HBx := HBy
                clear HMy Jy HBy
                refine hK _ _ ⟨(MRow.at_ HMx.out j p HPJ.out).1, (MRow.at_ HMx.out j p HPJ.out).2.1, (MRow.at_ HMx.out j p HPJ.out).2.2, (blk_cell Jx.out 0).trans rfl, (blk_cell Jx.out 1).trans rfl, (blk_cell Jx.out 2).trans rfl⟩ (fun hHeld => ?_)
                clear hK K
                refine norm_ (a' := ?_) ?_ ?_
                rotate_left
                · show Act.put _ (some 136) _ = _
                  simp only [Act.put, List.setIfInBounds_toArray, List.set_cons_zero, List.set_cons_succ, i64_w, i32_w]
                  rfl
                refine pure_ (i := 5) (N := some 137) (v := ?_) (a' := ?_) #[true, true, true, true, true, true, false, false, false, false, false, false, false, false, false, false, false] rfl rfl (by kernel_rfl) (fun _ _ _ h => h) (Or.inl ⟨by rfl, ?_⟩) ?_ ?_
                rotate_left
                · intro w'
                  go_simp
                  first | done | with_reducible rfl | rfl | (simp [Instr.field, go_sem]; rfl)
                rotate_left
                · simp only [Act.put, List.setIfInBounds_toArray, List.set_cons_zero, List.set_cons_succ, i64_w, i32_w]
                  rfl
                refine pure_ (i := 6) (N := some 138) (v := undef) (a' := ?_) #[true, true, true, true, true, true, true, false, false, false, false, false, false, false, false, false, false] rfl rfl (by kernel_rfl) (fun _ _ _ h => h) (Or.inr ⟨by rfl, rfl⟩) ?_ ?_
                rotate_left
                · simp only [Act.put, List.setIfInBounds_toArray, List.set_cons_zero, List.set_cons_succ, i64_w, i32_w]
                  rfl
                refine pure_ (i := 7) (N := some 139) (v := undef) (a' := ?_) #[true, true, true, true, true, true, true, true, false, false, false, false, false, false, false, false, false] rfl rfl (by kernel_rfl) (fun _ _ _ h => h) (Or.inr ⟨by rfl, rfl⟩) ?_ ?_
                rotate_left
                · simp only [Act.put, List.setIfInBounds_toArray, List.set_cons_zero, List.set_cons_succ, i64_w, i32_w]
                  rfl
                refine pure_ (i := 8) (N := some 140) (v := undef) (a' := ?_) #[true, true, true, true, true, true, true, true, true, false, false, false, false, false, false, false, false] rfl rfl (by kernel_rfl) (fun _ _ _ h => h) (Or.inr ⟨by rfl, rfl⟩) ?_ ?_
                rotate_left
                · simp only [Act.put, List.setIfInBounds_toArray, List.set_cons_zero, List.set_cons_succ, i64_w, i32_w]
                  rfl
                refine pure_ (i := 9) (N := some 141) (v := undef) (a' := ?_) #[true, true, true, true, true, true, true, true, true, true, false, false, false, false, false, false, false] rfl rfl (by kernel_rfl) (fun _ _ _ h => h) (Or.inr ⟨by rfl, rfl⟩) ?_ ?_
                rotate_left
                · simp only [Act.put, List.setIfInBounds_toArray, List.set_cons_zero, List.set_cons_succ, i64_w, i32_w]
                  rfl
                refine pure_ (i := 10) (N := some 142) (v := undef) (a' := ?_) #[true, true, true, true, true, true, true, true, true, true, true, false, false, false, false, false, false] rfl rfl (by kernel_rfl) (fun _ _ _ h => h) (Or.inr ⟨by rfl, rfl⟩) ?_ ?_
                rotate_left
                · simp only [Act.put, List.setIfInBounds_toArray, List.set_cons_zero, List.set_cons_succ, i64_w, i32_w]
                  rfl
                refine pure_ (i := 11) (N := some 143) (v := undef) (a' := ?_) #[true, true, true, true, true, true, true, true, true, true, true, true, false, false, false, false, false] rfl rfl (by kernel_rfl) (fun _ _ _ h => h) (Or.inr ⟨by rfl, rfl⟩) ?_ ?_
                rotate_left
                · simp only [Act.put, List.setIfInBounds_toArray, List.set_cons_zero, List.set_cons_succ, i64_w, i32_w]
                  rfl
                refine pure_ (i := 12) (N := some 144) (v := undef) (a' := ?_) #[true, true, true, true, true, true, true, true, true, true, true, true, true, false, false, false, false] rfl rfl (by kernel_rfl) (fun _ _ _ h => h) (Or.inr ⟨by rfl, rfl⟩) ?_ ?_
                rotate_left
                · simp only [Act.put, List.setIfInBounds_toArray, List.set_cons_zero, List.set_cons_succ, i64_w, i32_w]
                  rfl
                refine pure_ (i := 13) (N := some 145) (v := undef) (a' := ?_) #[true, true, true, true, true, true, true, true, true, true, true, true, true, true, false, false, false] rfl rfl (by kernel_rfl) (fun _ _ _ h => h) (Or.inr ⟨by rfl, rfl⟩) ?_ ?_
                rotate_left
                · simp only [Act.put, List.setIfInBounds_toArray, List.set_cons_zero, List.set_cons_succ, i64_w, i32_w]
                  rfl
                refine pure_ (i := 14) (N := some 146) (v := undef) (a' := ?_) #[true, true, true, true, true, true, true, true, true, true, true, true, true, true, true, false, false] rfl rfl (by kernel_rfl) (fun _ _ _ h => h) (Or.inr ⟨by rfl, rfl⟩) ?_ ?_
                rotate_left
                · simp only [Act.put, List.setIfInBounds_toArray, List.set_cons_zero, List.set_cons_succ, i64_w, i32_w]
                  rfl
                refine pure_ (i := 15) (N := some 147) (v := undef) (a' := ?_) #[true, true, true, true, true, true, true, true, true, true, true, true, true, true, true, true, false] rfl rfl (by kernel_rfl) (fun _ _ _ h => h) (Or.inr ⟨by rfl, rfl⟩) ?_ ?_
                rotate_left
                · simp only [Act.put, List.setIfInBounds_toArray, List.set_cons_zero, List.set_cons_succ, i64_w, i32_w]
                  rfl
                refine pure_ (i := 16) (N := some 148) (v := ?_) (a' := ?_) #[true, true, true, true, true, true, true, true, true, true, true, true, true, true, true, true, true] rfl rfl (by kernel_rfl) (fun _ _ _ h => h) (Or.inl ⟨by rfl, ?_⟩) ?_ ?_
                rotate_left
                · intro w'
                  go_simp
                  first | done | with_reducible rfl | rfl | (simp [Instr.field, go_sem]; rfl)
                rotate_left
                · simp only [Act.put, List.setIfInBounds_toArray, List.set_cons_zero, List.set_cons_succ, i64_w, i32_w]
                  rfl
                refine done_ (by kernel_rfl) ?_
                clear hHeld
                go_wp2
                go_roundw
                case rel => exact ⟨j + 1, by go_num, ⟨hlt⟩, HBx⟩
                case measure => simp [intOf]; omega
              · have hmf2 : conventicleref06_May.f p.f0 p.f1 p.f2 = some true := by rw [hmf]; exact congrArg some hm
                have HMAY := Aside0.mk hmf2
                obtain ⟨u, hg, hnw⟩ := knows_get (hk.resolve_left (by rw [hm]; decide))
                have hnf := ref06_newer p u
                rw [hnw] at hnf
                have HNW := Aside0.mk hnf
                have HG := Aside0.mk hg
                clear hm hmf hmf2 hk hg hnw hnf
                go_upto_region 29 with (first | (go_at_call 14; (with_reducible refine (get_is _ gr Ra p.f0 u true HG.out HOa.out.v.inv.ok (RollB.below (R := Ra) HRz.out HB.out)).mono ?_); rintro e wg ⟨rfl, hb_⟩; have HBg := Aside0.mk (below_step HB.out hb_); clear hb_) | ((with_reducible refine gate_dst (N := 15) rfl ?_); refine box_event ?hg (N := 15) ?hd (cs := #[.int .i64 0, .int .u64 0, .int .i64 0]) (t := 31) ?hr ?_; (case hd => rfl); (case hg => rfl); (case hr => first | (go_simp; done) | (go_simp; rfl)); intro g15 hg_ wc hb_ hB_; have K15 := Aside0.mk hb_; have L15 := Aside0.mk (show wz.heap.size ≤ g15 from (by rw [hg_]; exact HBg.out.size)); have HBc := Aside0.mk (below_step HBg.out hB_); have z0 := (blk_cell K15.out 0).trans rfl; have z1 := (blk_cell K15.out 1).trans rfl; have z2 := (blk_cell K15.out 2).trans rfl; have zf := fun j => blk_frozen K15.out j; clear hg_ hb_ hB_))
                have J15 : Aside0 ((((wc.setCell ⟨g15, 0, none⟩ (.int .i64 u.f0)).setCell ⟨g15, 1, none⟩ (.int .u64 u.f1)).setCell ⟨g15, 2, none⟩ (.int .i64 u.f2)).heap[g15]? = some (.cells #[.int .i64 u.f0, .int .u64 u.f1, .int .i64 u.f2] 31 (0, 0))) := ⟨blk_put (cs := #[.int .i64 u.f0, .int .u64 u.f1, .int .i64 0]) (blk_put (cs := #[.int .i64 u.f0, .int .u64 0, .int .i64 0]) (blk_put (cs := #[.int .i64 0, .int .u64 0, .int .i64 0]) K15.out 0 _ rfl) 1 _ rfl) 2 _ rfl⟩
                have HBd : Aside0 (Below wz.heap.size wz (((wc.setCell ⟨g15, 0, none⟩ (.int .i64 u.f0)).setCell ⟨g15, 1, none⟩ (.int .u64 u.f1)).setCell ⟨g15, 2, none⟩ (.int .i64 u.f2))) := ⟨below_set (below_set (below_set HBc.out L15.out) L15.out) L15.out⟩
                clear z0 z1 z2 zf HBc K15 L15
                generalize ((wc.setCell ⟨g15, 0, none⟩ (.int .i64 u.f0)).setCell ⟨g15, 1, none⟩ (.int .u64 u.f1)).setCell ⟨g15, 2, none⟩ (.int .i64 u.f2) = wd at J15 HBd ⊢
                clear HBg hp0 hp1 hp2
                have HMx : Aside0 (MRow wd.drew ag xs) := ⟨(HMM.out.below HBd.out).drew⟩
                have Jx : Aside0 (wd.drew.heap[g15]? = some (.cells #[.int .i64 u.f0, .int .u64 u.f1, .int .i64 u.f2] 31 (0, 0))) := ⟨blk_drew J15.out⟩
                have HBx := Aside0.mk (below_drew1 HBd.out)
                refine start_ (n := 17) (S := fun w' => w'.cell? ⟨ag, j * 3, none⟩ = some (.int .i64 p.f0) ∧ w'.cell? ⟨ag, j * 3 + 1, none⟩ = some (.int .u64 p.f1) ∧ w'.cell? ⟨ag, j * 3 + 2, none⟩ = some (.int .i64 p.f2) ∧ w'.cell? ⟨g15, 0, none⟩ = some (.int .i64 u.f0) ∧ w'.cell? ⟨g15, 1, none⟩ = some (.int .u64 u.f1) ∧ w'.cell? ⟨g15, 2, none⟩ = some (.int .i64 u.f2)) (ds := []) #[false, false, false, false, false, false, false, false, false, false, false, false, false, false, false, false, false] (by kernel_rfl) rfl rfl ⟨(MRow.at_ HMx.out j p HPJ.out).1, (MRow.at_ HMx.out j p HPJ.out).2.1, (MRow.at_ HMx.out j p HPJ.out).2.2, (blk_cell Jx.out 0).trans rfl, (blk_cell Jx.out 1).trans rfl, (blk_cell Jx.out 2).trans rfl⟩ (fun hHeld => ?_)
                generalize wd.drew = wx at HMx Jx HBx hHeld ⊢
                refine pure_ (i := 0) (N := some 132) (v := ?_) (a' := ?_) #[true, false, false, false, false, false, false, false, false, false, false, false, false, false, false, false, false] rfl rfl (by kernel_rfl) (fun _ _ _ h => h) (Or.inl ⟨by rfl, ?_⟩) ?_ ?_
                rotate_left
                · intro w'
                  go_simp
                  first | done | with_reducible rfl | rfl | (simp [Instr.field, go_sem]; rfl)
                rotate_left
                · simp only [Act.put, List.setIfInBounds_toArray, List.set_cons_zero, List.set_cons_succ, i64_w, i32_w]
                  rfl
                refine pure_ (i := 1) (N := some 133) (v := ?_) (a' := ?_) #[true, true, false, false, false, false, false, false, false, false, false, false, false, false, false, false, false] rfl rfl (by kernel_rfl) (fun _ _ _ h => h) (Or.inl ⟨by rfl, ?_⟩) ?_ ?_
                rotate_left
                · intro w'
                  go_simp
                  first | done | with_reducible rfl | rfl | (simp [Instr.field, go_sem]; rfl)
                rotate_left
                · simp only [Act.put, List.setIfInBounds_toArray, List.set_cons_zero, List.set_cons_succ, i64_w, i32_w]
                  rfl
                refine pure_ (i := 2) (N := some 134) (v := ?_) (a' := ?_) #[true, true, true, false, false, false, false, false, false, false, false, false, false, false, false, false, false] rfl rfl (by kernel_rfl) (fun _ _ _ h => h) (Or.inl ⟨by rfl, ?_⟩) ?_ ?_
                rotate_left
                · intro w'
                  go_simp
                  first | done | with_reducible rfl | rfl | (simp [Instr.field, go_sem]; rfl)
                rotate_left
                · simp only [Act.put, List.setIfInBounds_toArray, List.set_cons_zero, List.set_cons_succ, i64_w, i32_w]
                  rfl
                refine take_ (i := 3) (N := some 135) (v := ?_) (a' := ?_) #[true, true, true, true, false, false, false, false, false, false, false, false, false, false, false, false, false] rfl rfl (by kernel_rfl) (fun _ _ _ h => h) (Or.inl ⟨by rfl, ?_⟩) hHeld ?_ ?_
                rotate_left
                · rintro w' ⟨s0, s1, s2, s3, s4, s5⟩
                  go_simp
                  first | done | with_reducible rfl | rfl | (simp [Instr.field, go_sem]; rfl)
                rotate_left
                · simp only [Act.put, List.setIfInBounds_toArray, List.set_cons_zero, List.set_cons_succ, i64_w, i32_w]
                  rfl
                refine one_ (i := 4) (N := some 136) #[true, true, true, true, true, false, false, false, false, false, false, false, false, false, false, false, false] rfl rfl (by kernel_rfl) (by decide) (fun K hK => ?_)
                refine goes_ Tryd.func19 (by kernel_rfl) rfl #[.agg #[.int .i64 p.f0, .int .u64 p.f1, .int .i64 p.f2]] (by rfl) rfl rfl (by (try simp only [List.map_toArray, List.map_cons, List.map_nil]); first | done | rfl) ?_
                refine (conventicleref06_May.calls p.f0 p.f1 p.f2 true _ HMAY.out).mono ?_
                rintro e wq ⟨rfl, hb_⟩
                refine ⟨_, rfl, ?_⟩
                have HMy := Aside0.mk (HMx.out.below hb_)
                have Jy : Aside0 (wq.heap[g15]? = some (.cells #[.int .i64 u.f0, .int .u64 u.f1, .int .i64 u.f2] 31 (0, 0))) := ⟨blk_below Jx.out hb_⟩
                have HBy := Aside0.mk (below_step HBx.out hb_)
                clear HMx Jx HBx hHeld hb_
                have HMx := HMy
                have Jx := Jy
                have HBx := HBy
                clear HMy Jy HBy
                refine hK _ _ ⟨(MRow.at_ HMx.out j p HPJ.out).1, (MRow.at_ HMx.out j p HPJ.out).2.1, (MRow.at_ HMx.out j p HPJ.out).2.2, (blk_cell Jx.out 0).trans rfl, (blk_cell Jx.out 1).trans rfl, (blk_cell Jx.out 2).trans rfl⟩ (fun hHeld => ?_)
                clear hK K
                refine norm_ (a' := ?_) ?_ ?_
                rotate_left
                · show Act.put _ (some 136) _ = _
                  simp only [Act.put, List.setIfInBounds_toArray, List.set_cons_zero, List.set_cons_succ, i64_w, i32_w]
                  rfl
                refine pure_ (i := 5) (N := some 137) (v := ?_) (a' := ?_) #[true, true, true, true, true, true, false, false, false, false, false, false, false, false, false, false, false] rfl rfl (by kernel_rfl) (fun _ _ _ h => h) (Or.inl ⟨by rfl, ?_⟩) ?_ ?_
                rotate_left
                · intro w'
                  go_simp
                  first | done | with_reducible rfl | rfl | (simp [Instr.field, go_sem]; rfl)
                rotate_left
                · simp only [Act.put, List.setIfInBounds_toArray, List.set_cons_zero, List.set_cons_succ, i64_w, i32_w]
                  rfl
                refine pure_ (i := 6) (N := some 138) (v := ?_) (a' := ?_) #[true, true, true, true, true, true, true, false, false, false, false, false, false, false, false, false, false] rfl rfl (by kernel_rfl) (fun _ _ _ h => h) (Or.inl ⟨by rfl, ?_⟩) ?_ ?_
                rotate_left
                · intro w'
                  go_simp
                  first | done | with_reducible rfl | rfl | (simp [Instr.field, go_sem]; rfl)
                rotate_left
                · simp only [Act.put, List.setIfInBounds_toArray, List.set_cons_zero, List.set_cons_succ, i64_w, i32_w]
                  rfl
                refine pure_ (i := 7) (N := some 139) (v := ?_) (a' := ?_) #[true, true, true, true, true, true, true, true, false, false, false, false, false, false, false, false, false] rfl rfl (by kernel_rfl) (fun _ _ _ h => h) (Or.inl ⟨by rfl, ?_⟩) ?_ ?_
                rotate_left
                · intro w'
                  go_simp
                  first | done | with_reducible rfl | rfl | (simp [Instr.field, go_sem]; rfl)
                rotate_left
                · simp only [Act.put, List.setIfInBounds_toArray, List.set_cons_zero, List.set_cons_succ, i64_w, i32_w]
                  rfl
                refine pure_ (i := 8) (N := some 140) (v := ?_) (a' := ?_) #[true, true, true, true, true, true, true, true, true, false, false, false, false, false, false, false, false] rfl rfl (by kernel_rfl) (fun _ _ _ h => h) (Or.inl ⟨by rfl, ?_⟩) ?_ ?_
                rotate_left
                · intro w'
                  go_simp
                  first | done | with_reducible rfl | rfl | (simp [Instr.field, go_sem]; rfl)
                rotate_left
                · simp only [Act.put, List.setIfInBounds_toArray, List.set_cons_zero, List.set_cons_succ, i64_w, i32_w]
                  rfl
                refine pure_ (i := 9) (N := some 141) (v := ?_) (a' := ?_) #[true, true, true, true, true, true, true, true, true, true, false, false, false, false, false, false, false] rfl rfl (by kernel_rfl) (fun _ _ _ h => h) (Or.inl ⟨by rfl, ?_⟩) ?_ ?_
                rotate_left
                · intro w'
                  go_simp
                  first | done | with_reducible rfl | rfl | (simp [Instr.field, go_sem]; rfl)
                rotate_left
                · simp only [Act.put, List.setIfInBounds_toArray, List.set_cons_zero, List.set_cons_succ, i64_w, i32_w]
                  rfl
                refine pure_ (i := 10) (N := some 142) (v := ?_) (a' := ?_) #[true, true, true, true, true, true, true, true, true, true, true, false, false, false, false, false, false] rfl rfl (by kernel_rfl) (fun _ _ _ h => h) (Or.inl ⟨by rfl, ?_⟩) ?_ ?_
                rotate_left
                · intro w'
                  go_simp
                  first | done | with_reducible rfl | rfl | (simp [Instr.field, go_sem]; rfl)
                rotate_left
                · simp only [Act.put, List.setIfInBounds_toArray, List.set_cons_zero, List.set_cons_succ, i64_w, i32_w]
                  rfl
                refine pure_ (i := 11) (N := some 143) (v := ?_) (a' := ?_) #[true, true, true, true, true, true, true, true, true, true, true, true, false, false, false, false, false] rfl rfl (by kernel_rfl) (fun _ _ _ h => h) (Or.inl ⟨by rfl, ?_⟩) ?_ ?_
                rotate_left
                · intro w'
                  go_simp
                  first | done | with_reducible rfl | rfl | (simp [Instr.field, go_sem]; rfl)
                rotate_left
                · simp only [Act.put, List.setIfInBounds_toArray, List.set_cons_zero, List.set_cons_succ, i64_w, i32_w]
                  rfl
                refine take_ (i := 12) (N := some 144) (v := ?_) (a' := ?_) #[true, true, true, true, true, true, true, true, true, true, true, true, true, false, false, false, false] rfl rfl (by kernel_rfl) (fun _ _ _ h => h) (Or.inl ⟨by rfl, ?_⟩) hHeld ?_ ?_
                rotate_left
                · rintro w' ⟨s0, s1, s2, s3, s4, s5⟩
                  go_simp
                  first | done | with_reducible rfl | rfl | (simp [Instr.field, go_sem]; rfl)
                rotate_left
                · simp only [Act.put, List.setIfInBounds_toArray, List.set_cons_zero, List.set_cons_succ, i64_w, i32_w]
                  rfl
                refine take_ (i := 13) (N := some 145) (v := ?_) (a' := ?_) #[true, true, true, true, true, true, true, true, true, true, true, true, true, true, false, false, false] rfl rfl (by kernel_rfl) (fun _ _ _ h => h) (Or.inl ⟨by rfl, ?_⟩) hHeld ?_ ?_
                rotate_left
                · rintro w' ⟨s0, s1, s2, s3, s4, s5⟩
                  go_simp
                  first | done | with_reducible rfl | rfl | (simp [Instr.field, go_sem]; rfl)
                rotate_left
                · simp only [Act.put, List.setIfInBounds_toArray, List.set_cons_zero, List.set_cons_succ, i64_w, i32_w]
                  rfl
                refine one_ (i := 14) (N := some 146) #[true, true, true, true, true, true, true, true, true, true, true, true, true, true, true, false, false] rfl rfl (by kernel_rfl) (by decide) (fun K hK => ?_)
                refine goes_ Tryd.func20 (by kernel_rfl) rfl #[.agg #[.int .i64 p.f0, .int .u64 p.f1, .int .i64 p.f2], .agg #[.int .i64 u.f0, .int .u64 u.f1, .int .i64 u.f2]] (by rfl) rfl rfl (by (try simp only [List.map_toArray, List.map_cons, List.map_nil]); first | done | rfl) ?_
                refine (conventicleref06_Newer.calls p.f0 p.f1 p.f2 u.f0 u.f1 u.f2 false _ HNW.out).mono ?_
                rintro e wq ⟨rfl, hb_⟩
                refine ⟨_, rfl, ?_⟩
                have HMy := Aside0.mk (HMx.out.below hb_)
                have Jy : Aside0 (wq.heap[g15]? = some (.cells #[.int .i64 u.f0, .int .u64 u.f1, .int .i64 u.f2] 31 (0, 0))) := ⟨blk_below Jx.out hb_⟩
                have HBy := Aside0.mk (below_step HBx.out hb_)
                clear HMx Jx HBx hHeld hb_
                have HMx := HMy
                have Jx := Jy
                have HBx := HBy
                clear HMy Jy HBy
                refine hK _ _ ⟨(MRow.at_ HMx.out j p HPJ.out).1, (MRow.at_ HMx.out j p HPJ.out).2.1, (MRow.at_ HMx.out j p HPJ.out).2.2, (blk_cell Jx.out 0).trans rfl, (blk_cell Jx.out 1).trans rfl, (blk_cell Jx.out 2).trans rfl⟩ (fun hHeld => ?_)
                clear hK K
                refine norm_ (a' := ?_) ?_ ?_
                rotate_left
                · show Act.put _ (some 146) _ = _
                  simp only [Act.put, List.setIfInBounds_toArray, List.set_cons_zero, List.set_cons_succ, i64_w, i32_w]
                  rfl
                refine pure_ (i := 15) (N := some 147) (v := ?_) (a' := ?_) #[true, true, true, true, true, true, true, true, true, true, true, true, true, true, true, true, false] rfl rfl (by kernel_rfl) (fun _ _ _ h => h) (Or.inl ⟨by rfl, ?_⟩) ?_ ?_
                rotate_left
                · intro w'
                  go_simp
                  first | done | with_reducible rfl | rfl | (simp [Instr.field, go_sem]; rfl)
                rotate_left
                · simp only [Act.put, List.setIfInBounds_toArray, List.set_cons_zero, List.set_cons_succ, i64_w, i32_w]
                  rfl
                refine pure_ (i := 16) (N := some 148) (v := ?_) (a' := ?_) #[true, true, true, true, true, true, true, true, true, true, true, true, true, true, true, true, true] rfl rfl (by kernel_rfl) (fun _ _ _ h => h) (Or.inl ⟨by rfl, ?_⟩) ?_ ?_
                rotate_left
                · intro w'
                  go_simp
                  first | done | with_reducible rfl | rfl | (simp [Instr.field, go_sem]; rfl)
                rotate_left
                · simp only [Act.put, List.setIfInBounds_toArray, List.set_cons_zero, List.set_cons_succ, i64_w, i32_w]
                  rfl
                refine done_ (by kernel_rfl) ?_
                clear hHeld
                go_wp2
                go_roundw
                case rel => exact ⟨j + 1, by go_num, ⟨hlt⟩, HBx⟩
                case measure => simp [intOf]; omega
            · obtain rfl : j = X.length := by have := hj.out; omega
              go_wp2
              go_ret
              exact ⟨rfl, below_step HQz.out HB.out⟩
theorem rollOrder_row (a0 : Int) (A : Option Addr) (c : Nat) (l : List S31) (S : Option Addr) (d : Nat) (sw : List Int) (w : World) (w0 : (Lit.int .u8 a0).wf = true) (hr : Kd.C k31 w A l.length l) (_ : l.length ≤ c) (hl : ∀ u ∈ l, (Lit.int .u64 u.f1).wf = true) (hs : Kd.C (Kd.int .u8) w S sw.length sw) (_ : sw.length ≤ d) (hsw : ∀ s ∈ sw, (Lit.int .u8 s).wf = true) (hT : Aside0 (TabT w)) :
    Calls Tryd.prog 6 #[.int .u8 a0, .slice A l.length c, .slice S sw.length d] w fun e w' => e = .returned (.bool true) ∧ Below w.heap.size w w' := by
  obtain ⟨k, hk, hk63⟩ := mod64 (Band.wf_u8 w0)
  exact order_walk w A S c d l sw a0 k hk (by omega) (fun u hu => okU_wf (hl u hu)) (fun s hs => Band.wf_u8 (hsw s hs)) hr hs hT
end Go.Proofs.YtkkcnhfbcophiaaDoor.B
