/- By hand: (*Roll).Merge. -/
import Derived.Test.YtkkcnhfbcophiaaDoorIsNew
import Derived.Laws.CopyOwn
import Derived.WalkLawsBesides
namespace Go.Proofs.YtkkcnhfbcophiaaDoor.B
open Go.RowKit Go.Proofs.YtkkcnhfbcophiaaDoorW.PrintWords Go.Proofs.YtkkcnhfbcophiaaDoorW.PrintLast Go.Proofs.YtkkcnhfbcophiaaDoorW.PrintMore Go.Proofs.YtkkcnhfbcophiaaDoor.Band
set_option linter.unusedSimpArgs false
set_option linter.unusedVariables false

theorem size57 (R : RollS) : (Tryd.prog.info? 57).map (·.size) = some (rollCells R).size := by rw [roll_size]; kernel_rfl
theorem roll_one (R : RollS) : (rollCells R).all (·.oneCell') = true := by
  rw [Array.all_eq_true]
  intro i hi
  have h := roll_get R i
  rw [roll_size] at hi
  rw [if_pos hi, Array.getElem?_eq_getElem (by rw [roll_size]; exact hi)] at h
  rw [Option.some.inj h]
  unfold rollAt
  split
  · rfl
  · split
    · rfl
    · unfold updAt
      split <;> rfl
theorem keep_row {w W : World} {g g' : Nat} (h : KeepBut w W g none) (hg : w.heap.size ≤ g') (cs : Array Value) : KeepBut w (W.setRow g' cs) g none :=
  ⟨by simpa [World.setRow] using h.1, fun i hi h1 h2 => (setRow_other W g' i cs (by omega)).trans (h.2 i hi h1 h2)⟩
theorem RollB.away {w : World} {g : Nat} {R : RollS} (h : RollB w g R) {p : Addr} (hp : g ≠ p.block) (u : Value) : RollB (w.setCell p u) g R := blk_far h hp u
theorem hear_eq (w0 w : World) (g : Nat) (R : RollS) (u : S31) (R1 : RollS) (b : Bool) (e1 : Int) (he : hearR R u = (R1, b, e1)) (hok : OkR R) (hu : OkU u) (hR : RollB w g R) (hg : w0.heap.size ≤ g) (hB : Below w0.heap.size w0 w) :
    Calls Tryd.prog 12 #[.pointer (some ⟨g, 0, none⟩), .agg #[.int .i64 u.f0, .int .u64 u.f1, .int .i64 u.f2]] w fun e w' =>
      e = .returned (.tuple #[.bool b, .int .i64 e1]) ∧ RollB w' g R1 ∧ Below w0.heap.size w0 w' ∧ KeepBut w w' g none := by
  have := hear_any w0 w g R u hok hu hR hg hB
  rwa [he] at this
theorem add_blk (a : Addr) (n : Nat) : (a.add n).block = a.block := by unfold Addr.add; split <;> rfl
theorem keep_cell {w W : World} {g : Nat} {a : Addr} {v : Value} (h : KeepBut w W g none) (hn : a.block ≠ g) (hc : w.cell? a = some v) : W.cell? a = some v := by
  have hlt := World.block_lt_of_cell? w a hc
  have := h.2 a.block hlt hn (by simp)
  rw [← hc]
  unfold World.cell?
  rw [this]
/-- l is heard, until an incarnation is the last one -/
def hearL (R : RollS) : List S31 → RollS × Bool
  | [] => (R, true)
  | u :: l => if (hearR R u).2.2 = 60 then ((hearR R u).1, false) else hearL (hearR R u).1 l
/-- what R knows of that R0 did not, or otherwise -/
def newsL (R0 R : RollS) : List S31 := ((bandL R.has).filter (fun n => !hasN R0.has n || neS (R0.K n.toNat) (R.K n.toNat))).map (fun n => R.K n.toNat)
def mergeN (R : RollS) (l : List S31) : List S31 := if (hearL R l).2 = true then newsL R (hearL R l).1 else []
def newsP (R0 R : RollS) (n : Int) : Bool := !hasN R0.has n || neS (R0.K n.toNat) (R.K n.toNat)
/-- the news among the first k nodes -/
def newsUp (R0 R : RollS) (k : Nat) : List S31 := (((bandL R.has).take k).filter (newsP R0 R)).map (fun n => R.K n.toNat)
theorem newsUp_len (R0 R : RollS) : newsUp R0 R (bandL R.has).length = newsL R0 R := by
  unfold newsUp newsL
  rw [List.take_length]
  rfl
theorem newsUp_le (R0 R : RollS) (k : Nat) : (newsUp R0 R k).length ≤ 64 := by
  unfold newsUp
  rw [List.length_map]
  refine Nat.le_trans (List.length_filter_le _ _) ?_
  rw [List.length_take]
  have := bandL_length R.has
  omega
theorem newsUp_succ (R0 R : RollS) (k m : Nat) (hk : k < (bandL R.has).length) (hm : rd (bandL R.has) (k : Int) = (m : Int)) : newsUp R0 R (k + 1) = if newsP R0 R (m : Int) = true then newsUp R0 R k ++ [R.K m] else newsUp R0 R k := by
  unfold rd at hm
  rw [Int.toNat_natCast, List.getD_eq_getElem?_getD, List.getElem?_eq_getElem hk, Option.getD_some] at hm
  unfold newsUp
  rw [List.take_succ_eq_append_getElem hk, List.filter_append, List.map_append, hm]
  by_cases h : newsP R0 R (m : Int) = true
  · rw [if_pos h, List.filter_cons_of_pos h, List.filter_nil]; rfl
  · rw [if_neg h, List.filter_cons_of_neg h, List.filter_nil, List.map_nil, List.append_nil]
theorem is_any (w : World) (g go g2 : Nat) (R0 R : RollS) (n : Nat) (hn : n < 64) (hb : R0.has < 18446744073709551616) (hO : RollB w go R0) (hP : w.heap[g2]? = some (.cells #[.pointer (some ⟨g, 0, none⟩)] 24 (0, 0))) (hR : RollB w g R) :
    Calls Tryd.prog 34 #[.int .i64 n, .pointer (some ⟨go, 0, none⟩), .pointer (some ⟨g2, 0, none⟩)] w fun e w' => e = .returned (.bool (newsP R0 R (n : Int))) ∧ Below w.heap.size w w' := by
  have hH := has_run R0.has hb n
  unfold newsP
  rw [Int.toNat_natCast]
  cases hh : hasN R0.has n
  · rw [hh] at hH
    exact is_first w g go g2 R0 R n hn hH hO hP hR
  · rw [hh] at hH
    exact is_other w g go g2 R0 R n hn hH hO hP hR
theorem cell_block_ne {w : World} {a : Addr} {g : Nat} {t : TypeId} {cs : Array Value} {v : Value} (h : w.heap[g]? = some (.cells cs t (0, 0))) (hc : w.cell? a = some v) (hv : v ∉ cs) : a.block ≠ g := by
  rintro rfl
  unfold World.cell? at hc
  rw [h] at hc
  dsimp only at hc
  split at hc
  · cases hc
  · exact hv (Array.mem_of_getElem? hc)
theorem keep_below {w W W' : World} {g n : Nat} (h : KeepBut w W g none) (hn : w.heap.size ≤ n) (hb : Below n W W') : KeepBut w W' g none := ⟨Nat.le_trans h.1 hb.size, fun i hi h1 h2 => (hb.block i (by omega)).trans (h.2 i hi h1 h2)⟩
theorem keep_new {w W W' : World} {g g' : Nat} (h : KeepBut w W g none) (hg : w.heap.size ≤ g') (hb : KeepBut W W' g' none) : KeepBut w W' g none := ⟨Nat.le_trans h.1 hb.1, fun i hi h1 h2 => (hb.2 i (Nat.lt_of_lt_of_le hi h.1) (by omega) (by simp)).trans (h.2 i hi h1 h2)⟩
theorem blk_belowN {w w1 : World} {g n : Nat} {o : Obj} (h : w.heap[g]? = some o) (hg : g < n) (hb : Below n w w1) : w1.heap[g]? = some o := (hb.block g hg).trans h
theorem leaves_tmps {P : Program} {fn : Func} {tmps tmps' : Array Value} {R : Ending → World → Prop} (h : results fn tmps = results fn tmps') : ∀ (ds : List Deferred) (u : FrameMode) (w : World), Leaves P fn tmps R ds u w → Leaves P fn tmps' R ds u w := by
  intro ds
  induction ds with
  | nil =>
    intro u w hl
    cases u with
    | run => exact hl.elim
    | returning =>
      obtain ⟨v, hr, hR⟩ := hl
      exact ⟨v, h ▸ hr, hR⟩
    | panicking c => exact hl
  | cons d ds ih =>
    intro u w hl
    obtain ⟨h1, fv, cap, f, args, h2, h3, h4⟩ := hl
    refine ⟨h1, fv, cap, f, args, h2, h3, fun c cs hu => ?_⟩
    obtain ⟨e, u', w', fr, hR, hrest⟩ := h4 c cs hu
    refine ⟨e, u', w', fr, ?_, hrest⟩
    cases e with
    | returned v => exact ih _ _ hR
    | panicked c => exact ih _ _ hR
    | outgrown => exact hR
theorem results_put {fn : Func} {p q : Tmp} {ty ty' : TypeId} (h : fn.results = #[.cell p ty, .cell q ty']) (N : Nat) (hp : N ≠ p) (hq : N ≠ q) (tmps : Array Value) (v : Value) : results fn (tmps.setIfInBounds N v) = results fn tmps := by
  simp [results, h, Array.getElem?_setIfInBounds, hp, hq]
theorem results_2c {P : Program} {fn : Func} {p u : Tmp} {ty ty' e : TypeId} {k : IntKind} (h : fn.results = #[.cell p ty, .cell u ty']) (tmps : Array Value) (w : World) (g g' : Nat) (v v' : Value)
    (hp : tmps.getD p undef = .pointer (some ⟨g, 0, none⟩)) (hq : tmps.getD u undef = .pointer (some ⟨g', 0, none⟩)) (hc : w.cell? ⟨g, 0, none⟩ = some v) (hc' : w.cell? ⟨g', 0, none⟩ = some v') (hu : P.underlying ty = some (.slice e)) (hu' : P.underlying ty' = some (.int k)) :
    (results fn tmps).run P w = .ok (.tuple #[v, v']) w := by
  have hp' : tmps[p]?.getD undef = .pointer (some ⟨g, 0, none⟩) := by simpa using hp
  have hq' : tmps[u]?.getD undef = .pointer (some ⟨g', 0, none⟩) := by simpa using hq
  simp [results, h, hp', hq', asAddr, loadVar, isAgg, run_underlying hu, run_underlying hu', hc, hc']
set_option maxRecDepth 100000 in
set_option maxHeartbeats 4000000 in
theorem merge_walk (w0 w : World) (g : Nat) (R : RollS) (A : Option Addr) (c : Nat) (l : List S31) (hok : OkR R) (hl : ∀ u ∈ l, OkU u) (hr : Kd.C k31 w A l.length l) (hne : ∀ ad, A = some ad → 0 < l.length → ad.block ≠ g) (hT : Aside0 (TabT w)) (hR : RollB w g R) (hg : w0.heap.size ≤ g) (hB : Below w0.heap.size w0 w) :
    Calls Tryd.prog 15 #[.pointer (some ⟨g, 0, none⟩), .slice A l.length c] w fun e w' => ∃ v, e = .returned (.tuple #[v, .int .i64 (if (hearL R l).2 = true then 0 else 60)]) ∧ Kd.R k31 31 w' w.heap.size (fun _ => True) v (mergeN R l) ∧ RollB w' g (hearL R l).1 ∧ Below w0.heap.size w0 w' ∧ KeepBut w w' g none := by
  have hmf : ∀ (fn : Fn) (first cap : Array Value) (w : World), (Instr.makeFunc fn first cap).run Tryd.prog w = .ok (.func fn first cap) w := fun _ _ _ _ => rfl
  have HR := Aside0.mk hR
  have hR0 := HR
  have HG := Aside0.mk hg
  have HB := Aside0.mk hB
  have size57 := size57 R
  have hlen : (l.length : Int) ≤ 9223372036854775807 := by have := hr.2.1; omega
  clear hR hg hB
  obtain ⟨er, her⟩ : ∃ er, (if (hearL R l).2 = true then (0 : Int) else 60) = er := ⟨_, rfl⟩
  rw [her]
  have HER := Aside0.mk her
  clear her
  go_enter_defers Tryd.func15, Tryd.ntmps15
  go_wp2_with (first
    | ((with_reducible refine gate_dst (N := 2) rfl ?_); refine box_event ?hg (N := 2) ?hd (cs := #[.pointer (some ⟨g, 0, none⟩)]) (t := 24) ?hr ?_; (case hd => rfl); (case hg => rfl); (case hr => first | (go_simp; done) | (go_simp; rfl)); intro g2 hg_ w2 hb_ hB_; have K2 := Aside0.mk hb_; have HR2 := Aside0.mk (HR.out.below hB_); have HB2 := Aside0.mk (below_step HB.out hB_); have HK2 := Aside0.mk (KeepBut.of_below hB_ g none); have q2 := Aside0.mk (show g < g2 ∧ w.heap.size ≤ g2 from ⟨(by have := blk_lt HR.out; omega), (by omega)⟩); have x2 : w2.cell? ⟨g2, 0, none⟩ = some (.pointer (some ⟨g, 0, none⟩)) := blk_cell K2.out 0; clear hg_ hb_ hB_)
    | ((with_reducible refine gate_dst (N := 4) rfl ?_); refine box_event ?hg (N := 4) ?hd (cs := #[.slice none 0 0]) (t := 22) ?hr ?_; (case hd => rfl); (case hg => rfl); (case hr => first | (go_simp; done) | (go_simp; rfl)); intro g4 hg_ w4 hb_ hB_; have K4 := Aside0.mk hb_; have K2a := Aside0.mk (blk_below K2.out hB_); have q4 := Aside0.mk (show g2 < g4 from by have := blk_lt K2.out; omega); have HR4 := Aside0.mk (HR2.out.below hB_); have HB4 := Aside0.mk (below_step HB2.out hB_); have HK4 := Aside0.mk (HK2.out.trans (KeepBut.of_below hB_ g none) (.inl rfl)); clear hg_ hb_ hB_ K2 x2; have K2 := K2a; clear K2a; have x2 : w4.cell? ⟨g2, 0, none⟩ = some (.pointer (some ⟨g, 0, none⟩)) := blk_cell K2.out 0)
    | ((with_reducible refine gate_dst (N := 5) rfl ?_); refine box_event ?hg (N := 5) ?hd (cs := #[.int .i64 0]) (t := 27) ?hr ?_; (case hd => rfl); (case hg => rfl); (case hr => first | (go_simp; done) | (go_simp; rfl)); intro g5 hg_ w5 hb_ hB_; have K5 := Aside0.mk hb_; have K2a := Aside0.mk (blk_below K2.out hB_); have K4a := Aside0.mk (blk_below K4.out hB_); have q5 := Aside0.mk (show g4 < g5 from by have := blk_lt K4.out; omega); have HR5 := Aside0.mk (HR4.out.below hB_); have HB5 := Aside0.mk (below_step HB4.out hB_); have HK5 := Aside0.mk (HK4.out.trans (KeepBut.of_below hB_ g none) (.inl rfl)); clear hg_ hb_ hB_ K2 K4 x2; have K2 := K2a; have K4 := K4a; clear K2a K4a; have x2 : w5.cell? ⟨g2, 0, none⟩ = some (.pointer (some ⟨g, 0, none⟩)) := blk_cell K2.out 0)
    | (refine wpList_load_row rfl 57 (.tmp 16) rfl g rfl 57 (rollCells R) (0, 0) _ HR5.out Tryd.underlying57 rfl size57 ?_)
    | ((with_reducible refine gate_dst (N := 6) rfl ?_); refine box_event ?hg (N := 6) ?hd (cs := Tryd.zeroCells57) (t := 57) ?hr ?_; (case hd => rfl); (case hg => rfl); (case hr => first | (go_simp; done) | (go_simp; rfl)); intro go hg_ w6 hb_ hB_; have K6 := Aside0.mk hb_; have K2a := Aside0.mk (blk_below K2.out hB_); have K4a := Aside0.mk (blk_below K4.out hB_); have K5a := Aside0.mk (blk_below K5.out hB_); have q6 := Aside0.mk (show g5 < go from by have := blk_lt K5.out; omega); have HR6 := Aside0.mk (HR5.out.below hB_); have HB6 := Aside0.mk (below_step HB5.out hB_); have HK6 := Aside0.mk (HK5.out.trans (KeepBut.of_below hB_ g none) (.inl rfl)); clear hg_ hb_ hB_ K2 K4 K5 x2; have K2 := K2a; have K4 := K4a; have K5 := K5a; clear K2a K4a K5a)
    | (refine wpList_store_row rfl 57 (.tmp 6) (.tmp 17) rfl go (rollCells R) rfl rfl 57 Tryd.zeroCells57 K6.out size57 (by rw [zero57, roll_size, roll_size]) (roll_one R) ?_; have KO := Aside0.mk (setRow_heap _ go _ (rollCells R) 57 (0, 0) K6.out); have q7 := Aside0.mk (show g2 ≠ go ∧ g4 ≠ go ∧ g5 ≠ go ∧ g ≠ go from ⟨by have := q4.out; have := q5.out; have := q6.out; omega, by have := q5.out; have := q6.out; omega, by have := q6.out; omega, by have := q2.out; have := q4.out; have := q5.out; have := q6.out; omega⟩); have K2a := Aside0.mk ((setRow_other _ go g2 (rollCells R) q7.out.1).trans K2.out); have K4a := Aside0.mk ((setRow_other _ go g4 (rollCells R) q7.out.2.1).trans K4.out); have K5a := Aside0.mk ((setRow_other _ go g5 (rollCells R) q7.out.2.2.1).trans K5.out); have HRa := Aside0.mk ((setRow_other _ go g (rollCells R) q7.out.2.2.2).trans HR6.out); have GO : w.heap.size ≤ go := (by have := q2.out; have := q4.out; have := q5.out; have := q6.out; omega); have HBa := Aside0.mk (below_setRow HB6.out (Nat.le_trans HB.out.size GO) (rollCells R)); have HKa := Aside0.mk (keep_row HK6.out GO (rollCells R)); generalize World.setRow _ go (rollCells R) = wa at KO K2a K4a K5a HRa HBa HKa ⊢; clear K2 K4 K5 HR6 HB6 HK6 HR5 HR4 HR2 HB5 HB4 HB2 HK5 HK4 HK2; have K2 := K2a; have K4 := K4a; have K5 := K5a; clear K2a K4a K5a GO K6))
  go_loopw [20] (fun i wr => ∃ (j : Nat) (Rj : RollS), i = .int .i64 j ∧ Aside0 (j ≤ l.length) ∧ Aside0 (hearL R l = hearL Rj (l.drop j)) ∧ Aside0 (OkR Rj) ∧ Aside0 (RollB wr g Rj) ∧ Aside0 (RollB wr go R) ∧ Aside0 (wr.heap[g2]? = some (.cells #[.pointer (some ⟨g, 0, none⟩)] 24 (0, 0))) ∧ Aside0 (wr.heap[g4]? = some (.cells #[.slice none 0 0] 22 (0, 0))) ∧ Aside0 (wr.heap[g5]? = some (.cells #[.int .i64 0] 27 (0, 0))) ∧ Aside0 (Below w0.heap.size w0 wr) ∧ Aside0 (KeepBut w wr g none))
    (fun i _ => l.length - (intOf i).toNat)
  case atStart => exact ⟨0, R, rfl, ⟨Nat.zero_le _⟩, ⟨by rw [List.drop_zero]⟩, ⟨hok⟩, HRa, KO, K2, K4, K5, HBa, HKa⟩
  case round =>
    obtain ⟨j, Rj, rfl, hj, HL1, HOK, HRr, HOr, K2r, K4r, K5r, HBr, HKr⟩ := hrel
    clear HRa KO K2 K4 K5 HBa HKa
    by_cases hlt : j < l.length
    · obtain ⟨ad, e, hy0, hy1, hy2⟩ := at_T31 hr (j : Int) (by omega) (by have := hr.2.1; omega)
      simp only [Int.toNat_natCast] at hy0 hy1 hy2
      obtain rfl := e
      have NE : Aside0 ((ad.add (j * 3)).block ≠ g) := ⟨by rw [add_blk]; exact hne ad rfl (by omega)⟩
      have Y0 := Aside0.mk hy0
      have Y1 := Aside0.mk hy1
      have Y2 := Aside0.mk hy2
      obtain ⟨p, hp⟩ : ∃ p, p = rd_T31 l (j : Int) := ⟨_, rfl⟩
      have hlp : l[j] = p := by
        rw [hp]
        unfold rd_T31
        rw [Int.toNat_natCast, List.getD_eq_getElem?_getD, List.getElem?_eq_getElem hlt]; rfl
      have HUP : Aside0 (OkU p) := ⟨hl p (by rw [← hlp]; exact List.getElem_mem hlt)⟩
      rw [← hp] at Y0 Y1 Y2
      clear hp hy0 hy1 hy2
      obtain ⟨f0, f1, f2⟩ := p
      dsimp only at Y0 Y1 Y2
      have hx0 := keep_cell HKr.out NE.out Y0.out
      have hx1 := keep_cell (a := ⟨(ad.add (j * 3)).block, _, none⟩) HKr.out NE.out Y1.out
      have hx2 := keep_cell (a := ⟨(ad.add (j * 3)).block, _, none⟩) HKr.out NE.out Y2.out
      obtain ⟨⟨R1, b1, e1⟩, hh1⟩ : ∃ q, hearR Rj ⟨f0, f1, f2⟩ = q := ⟨_, rfl⟩
      have HH1 := Aside0.mk hh1
      have HOK1 : Aside0 (OkR R1) := ⟨by have := HOK.out.hear _ HUP.out; rwa [hh1] at this⟩
      have HLn : Aside0 (hearL R l = if e1 = 60 then (R1, false) else hearL R1 (l.drop (j + 1))) := ⟨by
        rw [HL1.out, List.drop_eq_getElem_cons hlt, hlp, hearL, hh1]⟩
      clear hh1 hlp
      by_cases he : e1 = 60
      · have HLe : Aside0 (hearL R l = (R1, false)) := ⟨by rw [HLn.out, if_pos he]⟩
        subst he
        go_wp2_with (first
          | ((with_reducible refine gate_dst (N := 8) rfl ?_); refine box_event ?hg (N := 8) ?hd (cs := #[.int .i64 0, .int .u64 0, .int .i64 0]) (t := 31) ?hr ?_; (case hd => rfl); (case hg => rfl); (case hr => first | (go_simp; done) | (go_simp; rfl)); intro g8 hg_ w8 hb_ hB_; have K8 := Aside0.mk hb_; have HR8 : Aside0 (RollB w8 g Rj) := ⟨HRr.out.below hB_⟩; have HO8 : Aside0 (RollB w8 go R) := ⟨HOr.out.below hB_⟩; have K28 := Aside0.mk (blk_below K2r.out hB_); have K48 := Aside0.mk (blk_below K4r.out hB_); have K58 := Aside0.mk (blk_below K5r.out hB_); have n2 : g2 ≠ g8 := (by have := blk_lt K2r.out; omega); have n4 : g4 ≠ g8 := (by have := blk_lt K4r.out; omega); have n5 : g5 ≠ g8 := (by have := blk_lt K5r.out; omega); have no : go ≠ g8 := (by have := blk_lt HOr.out; omega); have nr : g ≠ g8 := (by have := blk_lt HRr.out; omega); have GE8 : w.heap.size ≤ g8 := (by rw [hg_]; exact HKr.out.1); have HB8 := Aside0.mk (below_step HBr.out hB_); have HK8 := Aside0.mk (HKr.out.trans (KeepBut.of_below hB_ g none) (.inl rfl)); have z0 := (blk_cell K8.out 0).trans rfl; have z1 := (blk_cell K8.out 1).trans rfl; have z2 := (blk_cell K8.out 2).trans rfl; have zf := fun j => blk_frozen K8.out j; have x2 : w8.cell? ⟨g2, 0, none⟩ = some (.pointer (some ⟨g, 0, none⟩)) := blk_cell K28.out 0; have m2 : ¬ g8 = g2 := Ne.symm n2; have hx0 := (keep_cell HK8.out NE.out Y0.out); have hx1 := (keep_cell (a := ⟨(ad.add (j * 3)).block, _, none⟩) HK8.out NE.out Y1.out); have hx2 := (keep_cell (a := ⟨(ad.add (j * 3)).block, _, none⟩) HK8.out NE.out Y2.out); clear hg_ hb_ hB_)
          | (go_at_call 12; refine (hear_eq w0 _ g Rj ⟨f0, f1, f2⟩ R1 b1 60 HH1.out HOK.out HUP.out (by repeat (first | exact HR8.out | refine RollB.away ?_ nr _)) HG.out (by repeat (first | exact HB8.out | refine below_set ?_ (Nat.le_trans HB.out.size GE8)))).mono ?_; rintro e w9 ⟨rfl, hR_, hB_, hK_⟩; have HR9 := Aside0.mk hR_; have HB9 := Aside0.mk hB_; have HO9 : Aside0 (RollB w9 go R) := ⟨hK_.blk (by repeat (first | exact HO8.out | refine RollB.away ?_ no _)) (Ne.symm q7.out.2.2.2) (by simp)⟩; have K29 := Aside0.mk (hK_.blk (g' := g2) (o := .cells #[.pointer (some ⟨g, 0, none⟩)] 24 (0, 0)) (blk_far (p := ⟨g8, 2, none⟩) (blk_far (p := ⟨g8, 1, none⟩) (blk_far (p := ⟨g8, 0, none⟩) K28.out n2 _) n2 _) n2 _) (by have := q2.out.1; omega) (by simp)); have K49 := Aside0.mk (hK_.blk (g' := g4) (o := .cells #[.slice none 0 0] 22 (0, 0)) (blk_far (p := ⟨g8, 2, none⟩) (blk_far (p := ⟨g8, 1, none⟩) (blk_far (p := ⟨g8, 0, none⟩) K48.out n4 _) n4 _) n4 _) (by have := q2.out.1; have := q4.out; omega) (by simp)); have K59 := Aside0.mk (hK_.blk (g' := g5) (o := .cells #[.int .i64 0] 27 (0, 0)) (blk_far (p := ⟨g8, 2, none⟩) (blk_far (p := ⟨g8, 1, none⟩) (blk_far (p := ⟨g8, 0, none⟩) K58.out n5 _) n5 _) n5 _) (by have := q2.out.1; have := q4.out; have := q5.out; omega) (by simp)); have HK9 := Aside0.mk ((keep_far (keep_far (keep_far HK8.out (p := ⟨g8, 0, none⟩) GE8 (.int .i64 f0)) (p := ⟨g8, 1, none⟩) GE8 (.int .u64 f1)) (p := ⟨g8, 2, none⟩) GE8 (.int .i64 f2)).trans hK_ (.inl rfl)); clear hR_ hB_ hK_ x2 z0 z1 z2 zf))
        have n54 : g5 ≠ g4 := by have := q5.out; omega
        have W4 := blk_put (cs := #[.slice none 0 0]) K49.out 0 (.slice none 0 0) rfl
        have W5 := blk_put (blk_far (p := ⟨g4, 0, none⟩) K59.out n54 (.slice none 0 0)) 0 (.int .i64 60) rfl
        have W4b := blk_far (p := ⟨g5, 0, none⟩) W4 (Ne.symm n54) (.int .i64 60)
        refine leaves_cons (f := 33) (args := #[.pointer (some ⟨g4, 0, none⟩), .pointer (some ⟨g5, 0, none⟩)]) (by simp) (by simp [go_sem]) ?_
        refine (catch_panic ⟨g4, 0, none⟩ ⟨g5, 0, none⟩ 0 (.slice none 0 0) [] _ (blk_cell K49.out 0) (blk_frozen K49.out 0) (blk_cell (blk_far (p := ⟨g4, 0, none⟩) K59.out n54 (.slice none 0 0)) 0) (blk_frozen K59.out 0)).mono ?_
        rintro e u' w'' ⟨rfl, rfl, rfl⟩
        have B4 : w.heap.size ≤ g4 := by have := q2.out.2; have := q4.out; omega
        have B5 : w.heap.size ≤ g5 := by have := q2.out.2; have := q4.out; have := q5.out; omega
        have ngg4 : g ≠ g4 := by have := q2.out.1; have := q4.out; omega
        have ngg5 : g ≠ g5 := by have := q2.out.1; have := q4.out; have := q5.out; omega
        refine ⟨_, results_2c rfl _ _ g4 g5 (.slice none 0 0) (.int .i64 60) rfl rfl (blk_cell W4b 0) (blk_cell W5 0) Tryd.underlying22 Tryd.underlying27, .slice none 0 0, ?_, ?_, ?_, ?_, ?_⟩
        · have := HER.out
          rw [HLe.out, if_neg (show ¬ (R1, false).2 = true from by simp)] at this
          rw [this]
        · unfold mergeN
          rw [HLe.out, if_neg (show ¬ (R1, false).2 = true from by simp)]
          exact Kd.R_nil _ _ _ _ _
        · rw [HLe.out]
          exact RollB.away (p := ⟨g5, 0, none⟩) (RollB.away (p := ⟨g4, 0, none⟩) HR9.out ngg4 _) ngg5 _
        · exact below_set (below_set HB9.out (Nat.le_trans HB.out.size B4)) (Nat.le_trans HB.out.size B5)
        · exact keep_far (keep_far HK9.out (p := ⟨g4, 0, none⟩) B4 _) (p := ⟨g5, 0, none⟩) B5 _
      · have he1 : (e1 == 60) = false := beq_eq_false_iff_ne.2 he
        have HLe : Aside0 (hearL R l = hearL R1 (l.drop (j + 1))) := ⟨by rw [HLn.out, if_neg he]⟩
        clear he
        go_wp2_with (first
          | ((with_reducible refine gate_dst (N := 8) rfl ?_); refine box_event ?hg (N := 8) ?hd (cs := #[.int .i64 0, .int .u64 0, .int .i64 0]) (t := 31) ?hr ?_; (case hd => rfl); (case hg => rfl); (case hr => first | (go_simp; done) | (go_simp; rfl)); intro g8 hg_ w8 hb_ hB_; have K8 := Aside0.mk hb_; have HR8 : Aside0 (RollB w8 g Rj) := ⟨HRr.out.below hB_⟩; have HO8 : Aside0 (RollB w8 go R) := ⟨HOr.out.below hB_⟩; have K28 := Aside0.mk (blk_below K2r.out hB_); have K48 := Aside0.mk (blk_below K4r.out hB_); have K58 := Aside0.mk (blk_below K5r.out hB_); have n2 : g2 ≠ g8 := (by have := blk_lt K2r.out; omega); have n4 : g4 ≠ g8 := (by have := blk_lt K4r.out; omega); have n5 : g5 ≠ g8 := (by have := blk_lt K5r.out; omega); have no : go ≠ g8 := (by have := blk_lt HOr.out; omega); have nr : g ≠ g8 := (by have := blk_lt HRr.out; omega); have GE8 : w.heap.size ≤ g8 := (by rw [hg_]; exact HKr.out.1); have HB8 := Aside0.mk (below_step HBr.out hB_); have HK8 := Aside0.mk (HKr.out.trans (KeepBut.of_below hB_ g none) (.inl rfl)); have z0 := (blk_cell K8.out 0).trans rfl; have z1 := (blk_cell K8.out 1).trans rfl; have z2 := (blk_cell K8.out 2).trans rfl; have zf := fun j => blk_frozen K8.out j; have x2 : w8.cell? ⟨g2, 0, none⟩ = some (.pointer (some ⟨g, 0, none⟩)) := blk_cell K28.out 0; have m2 : ¬ g8 = g2 := Ne.symm n2; have hx0 := (keep_cell HK8.out NE.out Y0.out); have hx1 := (keep_cell (a := ⟨(ad.add (j * 3)).block, _, none⟩) HK8.out NE.out Y1.out); have hx2 := (keep_cell (a := ⟨(ad.add (j * 3)).block, _, none⟩) HK8.out NE.out Y2.out); clear hg_ hb_ hB_)
          | (go_at_call 12; refine (hear_eq w0 _ g Rj ⟨f0, f1, f2⟩ R1 b1 e1 HH1.out HOK.out HUP.out (by repeat (first | exact HR8.out | refine RollB.away ?_ nr _)) HG.out (by repeat (first | exact HB8.out | refine below_set ?_ (Nat.le_trans HB.out.size GE8)))).mono ?_; rintro e w9 ⟨rfl, hR_, hB_, hK_⟩; have HR9 := Aside0.mk hR_; have HB9 := Aside0.mk hB_; have HO9 : Aside0 (RollB w9 go R) := ⟨hK_.blk (by repeat (first | exact HO8.out | refine RollB.away ?_ no _)) (Ne.symm q7.out.2.2.2) (by simp)⟩; have K29 := Aside0.mk (hK_.blk (g' := g2) (o := .cells #[.pointer (some ⟨g, 0, none⟩)] 24 (0, 0)) (blk_far (p := ⟨g8, 2, none⟩) (blk_far (p := ⟨g8, 1, none⟩) (blk_far (p := ⟨g8, 0, none⟩) K28.out n2 _) n2 _) n2 _) (by have := q2.out.1; omega) (by simp)); have K49 := Aside0.mk (hK_.blk (g' := g4) (o := .cells #[.slice none 0 0] 22 (0, 0)) (blk_far (p := ⟨g8, 2, none⟩) (blk_far (p := ⟨g8, 1, none⟩) (blk_far (p := ⟨g8, 0, none⟩) K48.out n4 _) n4 _) n4 _) (by have := q2.out.1; have := q4.out; omega) (by simp)); have K59 := Aside0.mk (hK_.blk (g' := g5) (o := .cells #[.int .i64 0] 27 (0, 0)) (blk_far (p := ⟨g8, 2, none⟩) (blk_far (p := ⟨g8, 1, none⟩) (blk_far (p := ⟨g8, 0, none⟩) K58.out n5 _) n5 _) n5 _) (by have := q2.out.1; have := q4.out; have := q5.out; omega) (by simp)); have HK9 := Aside0.mk ((keep_far (keep_far (keep_far HK8.out (p := ⟨g8, 0, none⟩) GE8 (.int .i64 f0)) (p := ⟨g8, 1, none⟩) GE8 (.int .u64 f1)) (p := ⟨g8, 2, none⟩) GE8 (.int .i64 f2)).trans hK_ (.inl rfl)); clear hR_ hB_ hK_ x2 z0 z1 z2 zf))
        go_roundw
        case rel => exact ⟨j + 1, R1, by go_num, ⟨hlt⟩, HLe, HOK1, HR9, HO9, K29, K49, K59, HB9, HK9⟩
        case measure => simp [intOf]; omega
    · obtain rfl : j = l.length := by have := hj.out; omega
      have HLe : Aside0 (hearL R l = (Rj, true)) := ⟨by rw [HL1.out, List.drop_length]; rfl⟩
      have hg0 : g ≠ 0 := by
        rintro rfl
        have h1 := hR0.out.me
        have h2 := hT.out 0 (by decide)
        have h3 := h2.symm.trans h1
        injection h3 with h3
        injection h3 with h3
        cases h3
      have HTr : Aside0 (TabT wr) := ⟨fun j hj => keep_cell HKr.out (fun e => hg0 e.symm) (hT.out j hj)⟩
      have x2 := (blk_cell K2r.out 0).trans rfl
      have hc := RollB.has HRr.out
      have hF : Aside0 (band_List.f Rj.has = some (bandL Rj.has)) := ⟨by unfold band_List.f; have := HOK.out.has; rw [if_pos (by omega), Int.toNat_natCast]⟩
      have h64 := bandL_length Rj.has
      go_wp2_with (go_at_call 35; refine (band_List.calls Rj.has (bandL Rj.has) _ hF.out HTr).mono ?_; rintro e wl ⟨v0, rfl, ho, hb1⟩; obtain ⟨A', c', rfl⟩ := Kd.R_slice ho; have HL := Aside0.mk (Kd.R_reads' ho).2.2; have B1 := Aside0.mk hb1; clear ho hb1 x2 hc)
      have K2l := Aside0.mk (blk_below K2r.out B1.out)
      have K4l := Aside0.mk (blk_below K4r.out B1.out)
      have K5l := Aside0.mk (blk_below K5r.out B1.out)
      have HRl : Aside0 (RollB wl g Rj) := ⟨HRr.out.below B1.out⟩
      have HOl : Aside0 (RollB wl go R) := ⟨HOr.out.below B1.out⟩
      have HKl := Aside0.mk (keep_below HKr.out HKr.out.1 B1.out)
      have n24 : g2 ≠ g4 := by have := q4.out; omega
      have n54 : g5 ≠ g4 := by have := q5.out; omega
      have n4 : g4 < wl.heap.size := blk_lt K4l.out
      have L4 : w.heap.size ≤ g4 := by have := q2.out.2; have := q4.out; omega
      have Lg : g ≠ g4 := by have := q2.out.1; have := q4.out; omega
      have Lo : go ≠ g4 := Ne.symm q7.out.2.1
      go_loopw [42] (fun i wr => ∃ (k : Nat) (v : Value), i = .int .i64 k ∧ Aside0 (k ≤ (bandL Rj.has).length) ∧ Aside0 (wr.heap[g4]? = some (.cells #[v] 22 (0, 0))) ∧ Aside0 (Kd.R k31 31 wr wl.heap.size (fun b => b ≠ g4) v (newsUp R Rj k)) ∧ Aside0 (KeepBut wl wr g4 none) ∧ Aside0 (Below w0.heap.size w0 wr))
        (fun i _ => (bandL Rj.has).length - (intOf i).toNat)
      case atStart => exact ⟨0, .slice none 0 0, rfl, ⟨Nat.zero_le _⟩, K4l, ⟨Kd.R_nil _ _ _ _ _⟩, ⟨KeepBut.refl _ _ _⟩, ⟨below_step HBr.out B1.out⟩⟩
      case round =>
        obtain ⟨k, v, rfl, hk, K4s, HOs, HKs, HBs⟩ := hrel
        have K2s := Aside0.mk (HKs.out.blk K2l.out n24 (by simp))
        have HRs : Aside0 (RollB wr g Rj) := ⟨HKs.out.blk HRl.out Lg (by simp)⟩
        have HOos : Aside0 (RollB wr go R) := ⟨HKs.out.blk HOl.out Lo (by simp)⟩
        by_cases hlt : k < (bandL Rj.has).length
        · obtain ⟨m, hm64, hm⟩ := bandL_at Rj.has k hlt
          have p1 : ((0 : Int) ≤ (m : Int)) = True := eq_true (by omega)
          have p2 : ((m : Int) < 64) = True := eq_true (by omega)
          obtain ⟨ad, e, hx0⟩ := Kd.at_int HL.out (k : Int) (by omega) (by omega)
          obtain rfl := e
          rw [hm] at hx0
          have hta := Aside0.mk (newsUp_succ R Rj k m hlt hm)
          have NE := cell_block_ne K4l.out hx0 (by simp)
          replace hx0 := keep_cell HKs.out NE hx0
          simp only [Int.toNat_natCast] at hx0
          clear hm NE
          cases hp : newsP R Rj (m : Int)
          · have HN : Aside0 (newsUp R Rj (k + 1) = newsUp R Rj k) := ⟨by rw [hta.out, hp]; rfl⟩
            have HP := Aside0.mk hp
            clear hp
            go_wp2_with (go_at_call 34; refine (is_any _ g go g2 R Rj m hm64 hok.has HOos.out K2s.out HRs.out).mono ?_; rintro e w3 ⟨rfl, hb3⟩; rw [HP.out]; have B3 := Aside0.mk hb3; clear hb3)
            go_roundw
            case rel => exact ⟨k + 1, v, by go_num, ⟨hlt⟩, ⟨blk_below K4s.out B3.out⟩, ⟨by rw [HN.out]; exact Kd.R_below HOs.out B3.out⟩, ⟨keep_below HKs.out HKs.out.1 B3.out⟩, ⟨below_step HBs.out B3.out⟩⟩
            case measure => simp [intOf]; omega
          · have HN : Aside0 (newsUp R Rj (k + 1) = newsUp R Rj k ++ [Rj.K m]) := ⟨by rw [hta.out, hp]; rfl⟩
            have HP := Aside0.mk hp
            clear hp
            go_wp2_with (go_at_call 34; refine (is_any _ g go g2 R Rj m hm64 hok.has HOos.out K2s.out HRs.out).mono ?_; rintro e w3 ⟨rfl, hb3⟩; rw [HP.out]; have B3 := Aside0.mk hb3; clear hb3)
            have K4d : Aside0 (w3.drew.heap[g4]? = some (.cells #[v] 22 (0, 0))) := ⟨blk_drew (blk_below K4s.out B3.out)⟩
            have K2d : Aside0 (w3.drew.heap[g2]? = some (.cells #[.pointer (some ⟨g, 0, none⟩)] 24 (0, 0))) := ⟨blk_drew (blk_below K2s.out B3.out)⟩
            have HRd : Aside0 (RollB w3.drew g Rj) := ⟨blk_drew (HRs.out.below B3.out)⟩
            have HOd : Aside0 (Kd.R k31 31 w3.drew wl.heap.size (fun b => b ≠ g4) v (newsUp R Rj k)) := ⟨Kd.R_drew (Kd.R_below HOs.out B3.out)⟩
            have HKd : Aside0 (KeepBut wl w3.drew g4 none) := ⟨keep_drewN (keep_below HKs.out HKs.out.1 B3.out) 1⟩
            have HBd : Aside0 (Below w0.heap.size w0 w3.drew) := ⟨below_drew1 (below_step HBs.out B3.out)⟩
            have HSd : Aside0 (wl.heap.size ≤ w3.drew.heap.size) := ⟨HKd.out.1⟩
            have G4D : Aside0 (g4 < w3.drew.heap.size) := ⟨blk_lt K4d.out⟩
            have NLE : Aside0 (((newsUp R Rj k).length + 1) * 24 ≤ 140737488355328) := ⟨by have := newsUp_le R Rj k; omega⟩
            refine start_ (n := 10) (S := fun w' => w'.cell? ⟨g4, 0, none⟩ = some v ∧ w'.cell? ⟨g2, 0, none⟩ = some (.pointer (some ⟨g, 0, none⟩)) ∧ w'.cell? ⟨g, 1 + m * 3, none⟩ = some (.int .i64 (Rj.K m).f0) ∧ w'.cell? ⟨g, 1 + m * 3 + 1, none⟩ = some (.int .u64 (Rj.K m).f1) ∧ w'.cell? ⟨g, 1 + m * 3 + 2, none⟩ = some (.int .i64 (Rj.K m).f2)) (ds := [8, 9]) #[false, false, false, false, false, false, false, false, false, false] (by kernel_rfl) rfl rfl ⟨(blk_cell K4d.out 0).trans rfl, (blk_cell K2d.out 0).trans rfl, RollB.k0 HRd.out m hm64, RollB.k1 HRd.out m hm64, RollB.k2 HRd.out m hm64⟩ (fun hHeld => ?_)
            generalize w3.drew = wd at K4d K2d HRd HOd HKd HBd HSd G4D hHeld ⊢
            have BA : ∀ o, Below wd.heap.size wd (wd.alloc o) := fun o => below_alloc (Below.refl _ _) o
            have K4d5 : ∀ {w5 : World}, Below wl.heap.size wd w5 → w5.heap[g4]? = some (.cells #[v] 22 (0, 0)) := fun hb => blk_belowN K4d.out n4 hb
            refine take_ (i := 0) (N := some 49) (v := ?_) (a' := ?_) #[true, false, false, false, false, false, false, false, false, false] rfl rfl (by kernel_rfl) (fun c a w h => leaves_tmps (results_put (fn := Tryd.f15) rfl 49 (by decide) (by decide) _ _) _ _ _ h) (Or.inl ⟨by rfl, ?_⟩) hHeld ?_ ?_
            rotate_left
            · rintro w' ⟨s0, s1, s2, s3, s4⟩
              go_simp
              first | done | with_reducible rfl | rfl | (simp [Instr.field, go_sem]; rfl)
            rotate_left
            · simp only [Act.put, List.setIfInBounds_toArray, List.set_cons_zero, List.set_cons_succ, i64_w, i32_w]
              rfl
            refine take_ (i := 1) (N := some 50) (v := ?_) (a' := ?_) #[true, true, false, false, false, false, false, false, false, false] rfl rfl (by kernel_rfl) (fun c a w h => leaves_tmps (results_put (fn := Tryd.f15) rfl 50 (by decide) (by decide) _ _) _ _ _ h) (Or.inl ⟨by rfl, ?_⟩) hHeld ?_ ?_
            rotate_left
            · rintro w' ⟨s0, s1, s2, s3, s4⟩
              go_simp
              first | done | with_reducible rfl | rfl | (simp [Instr.field, go_sem]; rfl)
            rotate_left
            · simp only [Act.put, List.setIfInBounds_toArray, List.set_cons_zero, List.set_cons_succ, i64_w, i32_w]
              rfl
            refine pure_ (i := 2) (N := some 51) (v := ?_) (a' := ?_) #[true, true, true, false, false, false, false, false, false, false] rfl rfl (by kernel_rfl) (fun c a w h => leaves_tmps (results_put (fn := Tryd.f15) rfl 51 (by decide) (by decide) _ _) _ _ _ h) (Or.inl ⟨by rfl, ?_⟩) ?_ ?_
            rotate_left
            · intro w'
              go_simp
              first | done | with_reducible rfl | rfl | (simp [Instr.field, go_sem]; rfl)
            rotate_left
            · simp only [Act.put, List.setIfInBounds_toArray, List.set_cons_zero, List.set_cons_succ, i64_w, i32_w]
              rfl
            refine pure_ (i := 3) (N := some 52) (v := ?_) (a' := ?_) #[true, true, true, true, false, false, false, false, false, false] rfl rfl (by kernel_rfl) (fun c a w h => leaves_tmps (results_put (fn := Tryd.f15) rfl 52 (by decide) (by decide) _ _) _ _ _ h) (Or.inl ⟨by rfl, ?_⟩) ?_ ?_
            rotate_left
            · intro w'
              go_simp
              first | done | with_reducible rfl | rfl | (simp [Instr.field, go_sem]; rfl)
            rotate_left
            · simp only [Act.put, List.setIfInBounds_toArray, List.set_cons_zero, List.set_cons_succ, i64_w, i32_w]
              rfl
            refine pure_ (i := 4) (N := some 53) (v := ?_) (a' := ?_) #[true, true, true, true, true, false, false, false, false, false] rfl rfl (by kernel_rfl) (fun c a w h => leaves_tmps (results_put (fn := Tryd.f15) rfl 53 (by decide) (by decide) _ _) _ _ _ h) (Or.inl ⟨by rfl, ?_⟩) ?_ ?_
            rotate_left
            · intro w'
              go_simp
              first | done | with_reducible rfl | rfl | (simp [Instr.field, go_sem]; rfl)
            rotate_left
            · simp only [Act.put, List.setIfInBounds_toArray, List.set_cons_zero, List.set_cons_succ, i64_w, i32_w]
              rfl
            refine pure_ (i := 5) (N := some 54) (v := ?_) (a' := ?_) #[true, true, true, true, true, true, false, false, false, false] rfl rfl (by kernel_rfl) (fun c a w h => leaves_tmps (results_put (fn := Tryd.f15) rfl 54 (by decide) (by decide) _ _) _ _ _ h) (Or.inl ⟨by rfl, ?_⟩) ?_ ?_
            rotate_left
            · intro w'
              go_simp
              first | done | with_reducible rfl | rfl | (simp [Instr.field, go_sem]; rfl)
            rotate_left
            · simp only [Act.put, List.setIfInBounds_toArray, List.set_cons_zero, List.set_cons_succ, i64_w, i32_w]
              rfl
            refine take_ (i := 6) (N := some 55) (v := ?_) (a' := ?_) #[true, true, true, true, true, true, true, false, false, false] rfl rfl (by kernel_rfl) (fun c a w h => leaves_tmps (results_put (fn := Tryd.f15) rfl 55 (by decide) (by decide) _ _) _ _ _ h) (Or.inl ⟨by rfl, ?_⟩) hHeld ?_ ?_
            rotate_left
            · rintro w' ⟨s0, s1, s2, s3, s4⟩
              go_simp
              first | done | with_reducible rfl | rfl | (simp [Instr.field, go_sem]; rfl)
            rotate_left
            · simp only [Act.put, List.setIfInBounds_toArray, List.set_cons_zero, List.set_cons_succ, i64_w, i32_w]
              rfl
            refine one_ (i := 7) (N := some 56) #[true, true, true, true, true, true, true, true, false, false] rfl rfl (by kernel_rfl) (by decide) (fun K hK => ?_)
            refine value_ (w1 := ?_) (v := ?_) (by rfl) rfl ?_ ?_
            rotate_left 2
            · go_simp
              constructor
              · rfl
              · rfl
            refine hK _ _ ⟨(blk_cell (blk_below K4d.out (BA _)) 0).trans rfl, (blk_cell (blk_below K2d.out (BA _)) 0).trans rfl, RollB.k0 (HRd.out.below (BA _)) m hm64, RollB.k1 (HRd.out.below (BA _)) m hm64, RollB.k2 (HRd.out.below (BA _)) m hm64⟩ (fun hHeld => ?_)
            clear hK K
            refine norm_ (a' := ?_) ?_ ?_
            rotate_left
            · show Act.put _ (some 56) _ = _
              simp only [Act.put, List.setIfInBounds_toArray, List.set_cons_zero, List.set_cons_succ, i64_w, i32_w]
              rfl
            refine last_ (i := 8) (N := some 57) #[true, true, true, true, true, true, true, true, true, false] rfl rfl (by kernel_rfl) (by decide) (fun K hK => ?_)
            refine Kd.R_append_step k31 (w0 := wd) wl.heap.size (by rfl) (.tmp 49) (.tmp 56) 22 31 (.agg #[(.int .i64 0), (.int .u64 0), (.int .i64 0)]) 24 rfl Tryd.underlying22 info31 rfl (by decide) (by omega) v (newsUp R Rj k) (Rj.K m) [.int .i64 (Rj.K m).f0, .int .u64 (Rj.K m).f1, .int .i64 (Rj.K m).f2] (fun b => b ≠ g4) (fun _ => False) rfl rfl ?aP (fun _ hk => hk.elim) ?aF ?aO (Below.refl _ _) ?aS ?aL ?_
            case aP => exact k31_mkM _ _ _ (Rj.K m)
            case aF => exact fun b hb => by have := G4D.out; omega
            case aO => exact HOd.out
            case aS => exact HSd.out
            case aL => exact NLE.out
            intro v1 w5 ho5 hb5 hg5 hat5
            obtain ⟨A1, c1, rfl⟩ := Kd.R_slice ho5
            rw [show (newsUp R Rj k ++ [Rj.K m]).length = (newsUp R Rj k).length + 1 from by simp] at ho5 ⊢
            have HO5 := Aside0.mk ho5
            have HB5 := Aside0.mk hb5
            clear ho5 hb5 hg5 hat5
            refine hK _ _ ?_
            clear hK K
            refine norm_ (a' := ?_) ?_ ?_
            rotate_left
            · show Act.put _ (some 57) _ = _
              simp only [Act.put, List.setIfInBounds_toArray, List.set_cons_zero, List.set_cons_succ, i64_w, i32_w]
              rfl
            refine last_ (i := 9) (N := none) #[true, true, true, true, true, true, true, true, true, true] rfl rfl (by kernel_rfl) (by decide) (fun K hK => ?_)
            have z4 := (blk_cell (K4d5 HB5.out) 0).trans rfl
            have zf4 := fun j => blk_frozen (K4d5 HB5.out) j
            refine skip_ (w1 := ?_) (by rfl) rfl ?_ ?_
            rotate_left
            · go_simp
              rfl
            refine hK _ _ ?_
            clear hK K
            refine done_ (by kernel_rfl) ?_
            have HK5 := keep_below HKd.out (Nat.le_refl _) HB5.out
            have HW5 := HBd.out.trans (HB5.out.mono (show w0.heap.size ≤ wl.heap.size from by have := HB.out.size; omega))
            go_wp2
            go_roundw
            case rel => exact ⟨k + 1, _, by go_num, ⟨hlt⟩, ⟨blk_put (cs := #[v]) (K4d5 HB5.out) 0 _ rfl⟩, ⟨by rw [HN.out]; exact Kd.R_far (p := ⟨g4, 0, none⟩) HO5.out (fun _ h => h) _⟩, ⟨HK5.set_ 0 _⟩, ⟨below_set HW5 (Nat.le_trans HB.out.size L4)⟩⟩
            case measure => simp [intOf]; omega
        · obtain rfl : k = (bandL Rj.has).length := by have := hk.out; omega
          have z4 := (blk_cell K4s.out 0).trans rfl
          have z4f := fun j => blk_frozen K4s.out j
          have K5s := Aside0.mk (HKs.out.blk K5l.out n54 (by simp))
          have z5 := (blk_cell K5s.out 0).trans rfl
          have z5f := fun j => blk_frozen K5s.out j
          obtain ⟨A1, c1, rfl⟩ := Kd.R_slice HOs.out
          go_wp2
          have V4 : Aside0 (Kd.R k31 31 wr wl.heap.size (fun b => b ≠ g4) (.slice A1 (newsUp R Rj (bandL Rj.has).length).length c1) (newsUp R Rj (bandL Rj.has).length)) := HOs
          have NU := newsUp_len R Rj
          have W4 := blk_put (cs := #[.slice A1 (newsUp R Rj (bandL Rj.has).length).length c1]) K4s.out 0 (.slice A1 (newsUp R Rj (bandL Rj.has).length).length c1) rfl
          have W5 := blk_put (blk_far (p := ⟨g4, 0, none⟩) K5s.out n54 (.slice A1 (newsUp R Rj (bandL Rj.has).length).length c1)) 0 (.int .i64 0) rfl
          have W4b := blk_far (p := ⟨g5, 0, none⟩) W4 (Ne.symm n54) (.int .i64 0)
          refine leaves_cons (f := 33) (args := #[.pointer (some ⟨g4, 0, none⟩), .pointer (some ⟨g5, 0, none⟩)]) (by simp) (by simp [go_sem]) ?_
          refine (catch_idle ⟨g4, 0, none⟩ ⟨g5, 0, none⟩ _).mono ?_
          rintro e u' w'' ⟨rfl, rfl, rfl⟩
          have B5 : w.heap.size ≤ g5 := by have := q2.out.2; have := q4.out; have := q5.out; omega
          have ngg5 : g ≠ g5 := by have := q2.out.1; have := q4.out; have := q5.out; omega
          have HX := HER.out
          rw [HLe.out, if_pos rfl] at HX
          rw [HLe.out]
          refine ⟨_, results_2c rfl _ _ g4 g5 (.slice A1 (newsUp R Rj (bandL Rj.has).length).length c1) (.int .i64 0) rfl rfl (blk_cell W4b 0) (blk_cell W5 0) Tryd.underlying22 Tryd.underlying27, _, by rw [← HX], ?_, ?_, ?_, ?_⟩
          · unfold mergeN
            rw [HLe.out, if_pos rfl, ← NU]
            have h5 : ∀ b, b ≠ g4 ∧ wl.heap.size ≤ b → b ≠ g5 := fun b hb => by have := blk_lt K5l.out; omega
            have o1 := Kd.R_far (p := ⟨g4, 0, none⟩) V4.out (fun _ h => h) (.slice A1 (newsUp R Rj (bandL Rj.has).length).length c1)
            have o2 := Kd.R_far (p := ⟨g5, 0, none⟩) (Kd.R_mono (ok' := fun b => b ≠ g4 ∧ wl.heap.size ≤ b) (Kd.R_bound o1) (fun k hk => ⟨hk.1, hk.2.1⟩)) h5 (.int .i64 0)
            exact Kd.R_lower (Kd.R_mono o2 (fun _ _ => trivial)) HKl.out.1
          · exact RollB.away (p := ⟨g5, 0, none⟩) (RollB.away (p := ⟨g4, 0, none⟩) HRs.out Lg _) ngg5 _
          · exact below_set (below_set HBs.out (Nat.le_trans HB.out.size L4)) (Nat.le_trans HB.out.size B5)
          · exact keep_far (keep_far (keep_new HKl.out L4 HKs.out) (p := ⟨g4, 0, none⟩) L4 _) (p := ⟨g5, 0, none⟩) B5 _
end Go.Proofs.YtkkcnhfbcophiaaDoor.B
