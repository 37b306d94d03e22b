/- By hand: a reader's Text, where all goes well. -/
import Derived.Test.YtaegblhfhgiapaaTextRead
namespace Go.Proofs.Ytaegblhfhgiapaa.R
open Go.RowKit Go.Proofs.YtaegblhfhgiapaaW.PrintWords Go.Proofs.YtaegblhfhgiapaaW.PrintLast Go.Proofs.YtaegblhfhgiapaaW.PrintMore Go.Proofs.Ytaegblhfhgiapaa.B
set_option linter.unusedSimpArgs false

theorem wp_normal {P : Program} {c : Code} {Q : Exit → Act → World → Prop} {a : Act} {w : World} (h : Code.wp P c (fun e a w => match e with | .normal => Q .normal a w | _ => False) a w) : Code.wp P c Q a w := Code.wp_mono (fun e a w h => by cases e <;> first | exact h | exact h.elim) h
def textT : Bool × List (List Nat × List Nat) := (true, [([], []), ([0], [0]), ([1], [1]), ([2], [2]), ([], []), ([4], [4]), ([5], [5]), ([6], [6]), ([], []), ([8], [8]), ([9], [9]), ([10], [10]), ([], []), ([12], [12]), ([11, 13], [11, 13]), ([3, 7, 14], [3, 7, 14]), ([15, 0, 1, 2, 3, 4, 5, 6, 7, 8, 9, 10, 11, 12, 13, 14, 15], [15])])
def textB : List Nat := [0, 1, 3, 7, 0, 16, 48, 112, 0, 256, 768, 1792, 0, 4096, 16128, 32767, 65535]
theorem textTab : rtab .any (opsOf Try.f17 10) = textT := by kernel_rfl
theorem textBits : waitsOk textT.2 textB = true := by kernel_rfl
set_option maxHeartbeats 4000000 in
theorem text_ok (w0 w : World) (g : Nat) (s : ByteArray) (p : Nat) (most : Int) (hI : IsS63 w0 w g s p) (hB : Below w0.heap.size w0 w) (hsz : s.size < 4611686018427387904) (hs : p + 2 ≤ s.size) (hm : ¬ most < rdv s p 2) (hf : ¬ (s.size : Int) - ((p : Int) + 2) < rdv s p 2) :
    Calls Try.prog 17 #[.pointer (some ⟨g, 0, none⟩), .int .i64 most] w fun e w' => e = .returned (.tuple #[.string (s.extract ((p : Int) + 2).toNat ((p : Int) + 2 + rdv s p 2).toNat), .int .i64 0]) ∧ IsS63 w0 w' g s ((p : Int) + 2 + rdv s p 2) ∧ Below w0.heap.size w0 w' ∧ KeepBut w w' g none := by
  have hmf : ∀ (fn : Fn) (first cap : Array Value) (w : World), (Instr.makeFunc fn first cap).run Try.prog w = .ok (.func fn first cap) w := fun _ _ _ _ => rfl
  have HN : Aside0 (octet_Reader_Number.f 4 s (p : Int) 2 = some (rdv s p 2, 0, s, (p : Int) + 2)) := ⟨num_ok s p 2 (by decide) (by decide) hsz hs⟩
  have HI := Aside0.mk hI
  have HGE := Aside0.mk hI.2
  have HB := Aside0.mk hB
  have hc1 : w.cell? ⟨g, 1, none⟩ = some (.int .i64 p) := blk_cell hI.1 1
  have hr := rdv_range s 2 p
  have hr1 : rdv s p 2 < 65536 := hr.2
  have hr0 := hr.1
  generalize rdv s p 2 = n at HN hr0 hr1 hm hf ⊢
  have hw : wrap64 n = n := by unfold wrap64; omega
  have HL : Aside0 (octet_Reader_Left.f s ((p : Int) + 2) = some ((s.size : Int) - ((p : Int) + 2), s, (p : Int) + 2)) := ⟨by
    have : wrap64 ((s.size : Int) - ((p : Int) + 2)) = (s.size : Int) - ((p : Int) + 2) := by unfold wrap64; omega
    unfold octet_Reader_Left.f
    rw [this]⟩
  have hw2 : wrap64 ((p : Int) + 2 + n) = (p : Int) + 2 + n := by unfold wrap64; omega
  have b0 : 0 ≤ (p : Int) + 2 := by omega
  have b1 : (p : Int) + 2 ≤ (p : Int) + 2 + n := by omega
  have b2 : (p : Int) + 2 + n ≤ (s.size : Int) := by omega
  clear hI hB hs hsz hr
  go_enter_defers Try.func17, Try.ntmps17
  go_wp2_with (first
    | ((with_reducible refine gate_dst (N := 2) rfl ?_); refine box_event ?hg (N := 2) ?hd (cs := #[.pointer (some ⟨g, 0, none⟩)]) (t := 35) ?hr ?_; (case hd => rfl); (case hg => rfl); (case hr => first | (go_simp; done) | (go_simp; rfl)); intro g2 hg2 wn hbn hBn; have K2 := Aside0.mk hbn; have KG := Aside0.mk (blk_below HI.out.1 hBn); have BB := Aside0.mk (below_step HB.out hBn); have KK := Aside0.mk (KeepBut.of_below hBn g none); have n2 := Aside0.mk (show g2 ≠ g by have := (Array.getElem?_eq_some_iff.1 HI.out.1).1; omega); clear hc1 hg2 hbn hBn)
    | ((with_reducible refine gate_dst (N := 5) rfl ?_); refine box_event ?hg (N := 5) ?hd (cs := #[.int .i64 0]) (t := 27) ?hr ?_; (case hd => rfl); (case hg => rfl); (case hr => first | (go_simp; done) | (go_simp; rfl)); intro g5 hg5 wn5 hbn hBn; have K5 := Aside0.mk hbn; have n52 := Aside0.mk (show g5 ≠ g2 by have := (Array.getElem?_eq_some_iff.1 K2.out).1; omega); have G5 := Aside0.mk (show w.heap.size ≤ g5 by have := KK.out.1; omega); have n5 := Aside0.mk (show g5 ≠ g by have := (Array.getElem?_eq_some_iff.1 KG.out).1; omega); replace K2 := Aside0.mk (blk_below K2.out hBn); replace KG := Aside0.mk (blk_below KG.out hBn); replace BB := Aside0.mk (below_step BB.out hBn); replace KK := Aside0.mk (KK.out.trans (KeepBut.of_below hBn g none) (.inl rfl)); have hc2 : wn5.cell? ⟨g2, 0, none⟩ = some (.pointer (some ⟨g, 0, none⟩)) := blk_cell K2.out 0; have hc1 : wn5.cell? ⟨g, 1, none⟩ = some (.int .i64 p) := blk_cell KG.out 1; clear hg5 hbn hBn)
    | (go_at_call 15; go_loud (with_reducible refine (octet_Reader_Number.calls 4 g s p 2 n 0 s ((p : Int) + 2) w0 wn5 (s63 KG.out HGE.out) BB.out HN.out).mono ?_); rintro e w6 ⟨rfl, hI6, hB6, hK6⟩; replace K2 := Aside0.mk ((hK6.2 g2 (Array.getElem?_eq_some_iff.1 K2.out).1 n2.out (by simp)).trans K2.out); replace K5 := Aside0.mk ((hK6.2 g5 (Array.getElem?_eq_some_iff.1 K5.out).1 n5.out (by simp)).trans K5.out); replace KG := Aside0.mk hI6.1; replace BB := Aside0.mk hB6; replace KK := Aside0.mk (KK.out.trans hK6 (.inl rfl)); have hd2 : w6.cell? ⟨g2, 0, none⟩ = some (.pointer (some ⟨g, 0, none⟩)) := blk_cell K2.out 0; have hd5 : w6.cell? ⟨g5, 0, none⟩ = some (.int .i64 0) := blk_cell K5.out 0; have hf5 := blk_frozen K5.out 0; have hx25 : ¬ g2 = g5 := (Ne.symm n52.out); have hx52 : ¬ g5 = g2 := n52.out; clear hc1 hc2 hI6 hB6 hK6)
    | (go_at_call 16; go_loud (with_reducible refine (octet_Reader_Left.calls g s ((p : Int) + 2) ((s.size : Int) - ((p : Int) + 2)) s ((p : Int) + 2) w0 (w6.setCell ⟨g5, 0, none⟩ (.int .i64 0)) (s63 ((Below.heap_setCell w6 ⟨g5, 0, none⟩ (.int .i64 0) g (Ne.symm n5.out)).trans KG.out) HGE.out) (below_set (j := 0) (v := .int .i64 0) BB.out (Nat.le_trans HB.out.size G5.out)) HL.out).mono ?_); rintro e w9 ⟨rfl, hI9, hB9, hK9⟩; have hsz : (w6.setCell ⟨g5, 0, none⟩ (.int .i64 0)).heap.size = w6.heap.size := (by simp [World.setCell]); have M5 := Aside0.mk ((hK9.2 g5 (by rw [hsz]; exact (Array.getElem?_eq_some_iff.1 K5.out).1) n5.out (by simp)).trans (blk_put K5.out 0 (.int .i64 0) rfl)); have M2 := Aside0.mk ((hK9.2 g2 (by rw [hsz]; exact (Array.getElem?_eq_some_iff.1 K2.out).1) n2.out (by simp)).trans ((Below.heap_setCell w6 ⟨g5, 0, none⟩ (.int .i64 0) g2 (Ne.symm n52.out)).trans K2.out)); have MG := Aside0.mk hI9.1; have MB := Aside0.mk hB9; have MK := Aside0.mk ((keep_far KK.out (p := ⟨g5, 0, none⟩) G5.out (.int .i64 0)).trans hK9 (.inl rfl)); have he2 : w9.cell? ⟨g2, 0, none⟩ = some (.pointer (some ⟨g, 0, none⟩)) := blk_cell M2.out 0; have he5 : w9.cell? ⟨g5, 0, none⟩ = some (.int .i64 0) := blk_cell M5.out 0; have hz5 := blk_frozen M5.out 0; have heg0 : w9.cell? ⟨g, 0, none⟩ = some (.string s) := blk_cell MG.out 0; have heg1 : w9.cell? ⟨g, 1, none⟩ = some (.int .i64 ((p : Int) + 2)) := blk_cell MG.out 1; have hzg := blk_frozen MG.out 1; clear hd2 hd5 hf5 hI9 hB9 hK9 hsz))
  have G50 : w0.heap.size ≤ g5 := Nat.le_trans HB.out.size G5.out
  have MBd := Aside0.mk (below_drew1 MB.out)
  have MKd := Aside0.mk (keep_drew MK.out)
  have M5d := Aside0.mk (blk_drew M5.out)
  have M2d := Aside0.mk (blk_drew M2.out)
  have MGd := Aside0.mk (blk_drew MG.out)
  clear M5 M2 MG MB MK he2 he5 hz5 heg0 heg1 hzg
  refine wp_normal ?_
  refine start_ (n := 17) (S := fun w' => w'.cell? ⟨g2, 0, none⟩ = some (.pointer (some ⟨g, 0, none⟩)) ∧ w'.cell? ⟨g, 0, none⟩ = some (.string s) ∧ w'.cell? ⟨g, 1, none⟩ = some (.int .i64 ((p : Int) + 2))) (ds := []) #[false, false, false, false, false, false, false, false, false, false, false, false, false, false, false, false, false] (by kernel_rfl) rfl rfl ⟨blk_cell M2d.out 0, blk_cell MGd.out 0, blk_cell MGd.out 1⟩ (fun hHeld => ?_)
  refine with_tabW textTab textBits (fun HT_ HW_ => ?_)
  generalize w9.drew = w10 at MBd MKd M5d M2d MGd hHeld ⊢
  refine pure_ (i := 12) (N := some 46) (v := ?_) (a' := ?_) #[false, false, false, false, false, false, false, false, false, false, false, false, true, false, false, false, false] rfl rfl (any_of HT_.out (by kernel_rfl)) (fun _ _ _ h => h) (Or.inl ⟨by rfl, ?_⟩) ?_ ?_
  rotate_left
  · intro w'
    go_simp
    with_reducible rfl
  rotate_left
  · simp only [Act.put, List.setIfInBounds_toArray, List.set_cons_zero, List.set_cons_succ, i64_w, i32_w]
    rfl
  refine pure_ (i := 13) (N := some 47) (v := ?_) (a' := ?_) #[false, false, false, false, false, false, false, false, false, false, false, false, true, true, false, false, false] rfl rfl (any_of HT_.out (by kernel_rfl)) (fun _ _ _ h => h) (Or.inl ⟨by rfl, ?_⟩) ?_ ?_
  rotate_left
  · intro w'
    go_simp
    with_reducible rfl
  rotate_left
  · simp only [Act.put, List.setIfInBounds_toArray, List.set_cons_zero, List.set_cons_succ, i64_w, i32_w]
    rfl
  refine take_ (i := 0) (N := some 34) (v := ?_) (a' := ?_) #[true, false, false, false, false, false, false, false, false, false, false, false, true, true, false, false, false] rfl rfl (take_ofW HT_.out HW_.out (by kernel_rfl)) (fun _ _ _ h => h) (Or.inl ⟨by rfl, ?_⟩) hHeld ?_ ?_
  rotate_left
  · rintro w' ⟨s0, s1, s2⟩
    go_simp
    with_reducible rfl
  rotate_left
  · simp only [Act.put, List.setIfInBounds_toArray, List.set_cons_zero, List.set_cons_succ, i64_w, i32_w]
    rfl
  refine pure_ (i := 1) (N := some 35) (v := ?_) (a' := ?_) #[true, true, false, false, false, false, false, false, false, false, false, false, true, true, false, false, false] rfl rfl (any_of HT_.out (by kernel_rfl)) (fun _ _ _ h => h) (Or.inl ⟨by rfl, ?_⟩) ?_ ?_
  rotate_left
  · intro w'
    go_simp
    with_reducible rfl
  rotate_left
  · simp only [Act.put, List.setIfInBounds_toArray, List.set_cons_zero, List.set_cons_succ, i64_w, i32_w]
    rfl
  refine pure_ (i := 2) (N := some 36) (v := ?_) (a' := ?_) #[true, true, true, false, false, false, false, false, false, false, false, false, true, true, false, false, false] rfl rfl (any_of HT_.out (by kernel_rfl)) (fun _ _ _ h => h) (Or.inl ⟨by rfl, ?_⟩) ?_ ?_
  rotate_left
  · intro w'
    go_simp
    with_reducible rfl
  rotate_left
  · simp only [Act.put, List.setIfInBounds_toArray, List.set_cons_zero, List.set_cons_succ, i64_w, i32_w]
    rfl
  refine take_ (i := 3) (N := some 37) (v := ?_) (a' := ?_) #[true, true, true, true, false, false, false, false, false, false, false, false, true, true, false, false, false] rfl rfl (take_ofW HT_.out HW_.out (by kernel_rfl)) (fun _ _ _ h => h) (Or.inl ⟨by rfl, ?_⟩) hHeld ?_ ?_
  rotate_left
  · rintro w' ⟨s0, s1, s2⟩
    go_simp
    with_reducible rfl
  rotate_left
  · simp only [Act.put, List.setIfInBounds_toArray, List.set_cons_zero, List.set_cons_succ, i64_w, i32_w]
    rfl
  refine take_ (i := 4) (N := some 38) (v := ?_) (a' := ?_) #[true, true, true, true, true, false, false, false, false, false, false, false, true, true, false, false, false] rfl rfl (take_ofW HT_.out HW_.out (by kernel_rfl)) (fun _ _ _ h => h) (Or.inl ⟨by rfl, ?_⟩) hHeld ?_ ?_
  rotate_left
  · rintro w' ⟨s0, s1, s2⟩
    go_simp
    with_reducible rfl
  rotate_left
  · simp only [Act.put, List.setIfInBounds_toArray, List.set_cons_zero, List.set_cons_succ, i64_w, i32_w]
    rfl
  refine pure_ (i := 5) (N := some 39) (v := ?_) (a' := ?_) #[true, true, true, true, true, true, false, false, false, false, false, false, true, true, false, false, false] rfl rfl (any_of HT_.out (by kernel_rfl)) (fun _ _ _ h => h) (Or.inl ⟨by rfl, ?_⟩) ?_ ?_
  rotate_left
  · intro w'
    go_simp
    with_reducible rfl
  rotate_left
  · simp only [Act.put, List.setIfInBounds_toArray, List.set_cons_zero, List.set_cons_succ, i64_w, i32_w]
    rfl
  refine pure_ (i := 6) (N := some 40) (v := ?_) (a' := ?_) #[true, true, true, true, true, true, true, false, false, false, false, false, true, true, false, false, false] rfl rfl (any_of HT_.out (by kernel_rfl)) (fun _ _ _ h => h) (Or.inl ⟨by rfl, ?_⟩) ?_ ?_
  rotate_left
  · intro w'
    go_simp
    with_reducible rfl
  rotate_left
  · simp only [Act.put, List.setIfInBounds_toArray, List.set_cons_zero, List.set_cons_succ, i64_w, i32_w]
    rfl
  refine take_ (i := 7) (N := some 41) (v := ?_) (a' := ?_) #[true, true, true, true, true, true, true, true, false, false, false, false, true, true, false, false, false] rfl rfl (take_ofW HT_.out HW_.out (by kernel_rfl)) (fun _ _ _ h => h) (Or.inl ⟨by rfl, ?_⟩) hHeld ?_ ?_
  rotate_left
  · rintro w' ⟨s0, s1, s2⟩
    go_simp
    with_reducible rfl
  rotate_left
  · simp only [Act.put, List.setIfInBounds_toArray, List.set_cons_zero, List.set_cons_succ, i64_w, i32_w]
    rfl
  refine take_ (i := 8) (N := some 42) (v := ?_) (a' := ?_) #[true, true, true, true, true, true, true, true, true, false, false, false, true, true, false, false, false] rfl rfl (take_ofW HT_.out HW_.out (by kernel_rfl)) (fun _ _ _ h => h) (Or.inl ⟨by rfl, ?_⟩) hHeld ?_ ?_
  rotate_left
  · rintro w' ⟨s0, s1, s2⟩
    go_simp
    with_reducible rfl
  rotate_left
  · simp only [Act.put, List.setIfInBounds_toArray, List.set_cons_zero, List.set_cons_succ, i64_w, i32_w]
    rfl
  refine pure_ (i := 9) (N := some 43) (v := ?_) (a' := ?_) #[true, true, true, true, true, true, true, true, true, true, false, false, true, true, false, false, false] rfl rfl (any_of HT_.out (by kernel_rfl)) (fun _ _ _ h => h) (Or.inl ⟨by rfl, ?_⟩) ?_ ?_
  rotate_left
  · intro w'
    go_simp
    with_reducible rfl
  rotate_left
  · simp only [Act.put, List.setIfInBounds_toArray, List.set_cons_zero, List.set_cons_succ, i64_w, i32_w]
    rfl
  refine pure_ (i := 10) (N := some 44) (v := ?_) (a' := ?_) #[true, true, true, true, true, true, true, true, true, true, true, false, true, true, false, false, false] rfl rfl (any_of HT_.out (by kernel_rfl)) (fun _ _ _ h => h) (Or.inl ⟨by rfl, ?_⟩) ?_ ?_
  rotate_left
  · intro w'
    go_simp
    with_reducible rfl
  rotate_left
  · simp only [Act.put, List.setIfInBounds_toArray, List.set_cons_zero, List.set_cons_succ, i64_w, i32_w]
    rfl
  refine take_ (i := 11) (N := some 45) (v := ?_) (a' := ?_) #[true, true, true, true, true, true, true, true, true, true, true, true, true, true, false, false, false] rfl rfl (take_ofW HT_.out HW_.out (by kernel_rfl)) (fun _ _ _ h => h) (Or.inl ⟨by rfl, ?_⟩) hHeld ?_ ?_
  rotate_left
  · rintro w' ⟨s0, s1, s2⟩
    go_simp
    with_reducible rfl
  rotate_left
  · simp only [Act.put, List.setIfInBounds_toArray, List.set_cons_zero, List.set_cons_succ, i64_w, i32_w]
    rfl
  refine pure_ (i := 14) (N := some 48) (v := ?_) (a' := ?_) #[true, true, true, true, true, true, true, true, true, true, true, true, true, true, true, false, false] rfl rfl (any_of HT_.out (by kernel_rfl)) (fun _ _ _ h => h) (Or.inl ⟨by rfl, ?_⟩) ?_ ?_
  rotate_left
  · intro w'
    go_simp
    with_reducible rfl
  rotate_left
  · simp only [Act.put, List.setIfInBounds_toArray, List.set_cons_zero, List.set_cons_succ, i64_w, i32_w]
    rfl
  refine pure_ (i := 15) (N := some 49) (v := ?_) (a' := ?_) #[true, true, true, true, true, true, true, true, true, true, true, true, true, true, true, true, false] rfl rfl (any_of HT_.out (by kernel_rfl)) (fun _ _ _ h => h) (Or.inl ⟨by rfl, ?_⟩) ?_ ?_
  rotate_left
  · intro w'
    go_simp
    with_reducible rfl
  rotate_left
  · simp only [Act.put, List.setIfInBounds_toArray, List.set_cons_zero, List.set_cons_succ, i64_w, i32_w]
    rfl
  refine pure_ (i := 16) (N := some 4) (v := ?_) (a' := ?_) #[true, true, true, true, true, true, true, true, true, true, true, true, true, true, true, true, true] rfl rfl (any_of HT_.out (by kernel_rfl)) (fun _ _ _ h => h) (Or.inl ⟨by rfl, ?_⟩) ?_ ?_
  rotate_left
  · intro w'
    go_simp
    with_reducible rfl
  rotate_left
  · simp only [Act.put, List.setIfInBounds_toArray, List.set_cons_zero, List.set_cons_succ, i64_w, i32_w]
    rfl
  refine done_ (done_of HT_.out (by kernel_rfl)) ?_
  dsimp only
  have fe2 : w10.cell? ⟨g2, 0, none⟩ = some (.pointer (some ⟨g, 0, none⟩)) := blk_cell M2d.out 0
  have fe5 : w10.cell? ⟨g5, 0, none⟩ = some (.int .i64 0) := blk_cell M5d.out 0
  have fg1 : w10.cell? ⟨g, 1, none⟩ = some (.int .i64 ((p : Int) + 2)) := blk_cell MGd.out 1
  have fz5 := blk_frozen M5d.out 0
  have fzg := blk_frozen MGd.out 1
  have hx5 : ¬ g5 = g := n5.out
  have hx5' : ¬ g = g5 := Ne.symm n5.out
  clear hHeld HT_ HW_
  go_wp2
  have R5 := blk_put ((Below.heap_setCell w10 ⟨g, 1, none⟩ (.int .i64 ((p : Int) + 2 + n)) g5 n5.out).trans M5d.out) 0 (.int .i64 0) rfl
  have RG := (Below.heap_setCell (w10.setCell ⟨g, 1, none⟩ (.int .i64 ((p : Int) + 2 + n))) ⟨g5, 0, none⟩ (.int .i64 0) g (Ne.symm n5.out)).trans (blk_put MGd.out 1 (.int .i64 ((p : Int) + 2 + n)) rfl)
  have RB := below_set (j := 0) (v := .int .i64 0) (below_set (j := 1) (v := .int .i64 ((p : Int) + 2 + n)) MBd.out HGE.out) G50
  have RK := keep_far (MKd.out.set_ 1 (.int .i64 ((p : Int) + 2 + n))) (p := ⟨g5, 0, none⟩) G5.out (.int .i64 0)
  exact door_keep w0 w _ g g2 g5 s _ p _ _ HGE.out R5 RG RB RK rfl rfl
end Go.Proofs.Ytaegblhfhgiapaa.R
