/- Texts of this claim, one behind the other (joined by pack.py): Must Small. -/
import Derived.Test.YtondgoabnmgcaaaKLetterEncodes14
import Derived.Test.YtondgoabnmgcaaaKLetterEncodes7
import Derived.WalkLawsBesides
section
/- By hand: must, and the small and large numbers of the reader. -/
namespace Go.Proofs.Ytondgoabnmgcaaa.B
open Go.RowKit Go.Proofs.YtondgoabnmgcaaaW.PrintWords Go.Proofs.YtondgoabnmgcaaaW.PrintLast Go.Proofs.YtondgoabnmgcaaaW.PrintMore
open Go.Proofs.YtondgoabnmgcaaaO.B (IsS63)
set_option linter.unusedSimpArgs false
set_option linter.unusedVariables false

/-- a panic with an error -/
abbrev bad (er : Int) : Ending := .panicked [{ v := .iface 33 (.int .i64 er), recovered := false }]
theorem must_str_ok (s : ByteArray) (w : World) : Calls Try.prog 25 #[.string s, .int .i64 0] w fun e w' => e = .returned (.string s) ∧ w' = w := by
  go_enter Try.func25, Try.ntmps25
  go_wp2
  go_ret
  exact ⟨rfl, rfl⟩
theorem must_str_bad (s : ByteArray) (er : Int) (h : ¬ er = 0) (w : World) : Calls Try.prog 25 #[.string s, .int .i64 er] w fun e w' => e = bad er ∧ w' = w := by
  go_enter Try.func25, Try.ntmps25
  go_wp2
  exact ⟨rfl, rfl, rfl⟩
theorem must_num_ok (n : Int) (w : World) : Calls Try.prog 74 #[.int .u64 n, .int .i64 0] w fun e w' => e = .returned (.int .u64 n) ∧ w' = w := by
  go_enter Try.func74, Try.ntmps74
  go_wp2
  go_ret
  exact ⟨rfl, rfl⟩
theorem must_num_bad (n : Int) (er : Int) (h : ¬ er = 0) (w : World) : Calls Try.prog 74 #[.int .u64 n, .int .i64 er] w fun e w' => e = bad er ∧ w' = w := by
  go_enter Try.func74, Try.ntmps74
  go_wp2
  exact ⟨rfl, rfl, rfl⟩
theorem must_flt_ok (x : Nat) (w : World) : Calls Try.prog 36 #[.float .f64 x, .int .i64 0] w fun e w' => e = .returned (.float .f64 x) ∧ w' = w := by
  go_enter Try.func36, Try.ntmps36
  go_wp2
  go_ret
  exact ⟨rfl, rfl⟩
theorem must_flt_bad (x : Nat) (er : Int) (h : ¬ er = 0) (w : World) : Calls Try.prog 36 #[.float .f64 x, .int .i64 er] w fun e w' => e = bad er ∧ w' = w := by
  go_enter Try.func36, Try.ntmps36
  go_wp2
  exact ⟨rfl, rfl, rfl⟩
end Go.Proofs.Ytondgoabnmgcaaa.B
end
section
/- By hand: the small and large numbers of the reader. -/
namespace Go.Proofs.Ytondgoabnmgcaaa.B
open Go.RowKit Go.Proofs.YtondgoabnmgcaaaW.PrintWords Go.Proofs.YtondgoabnmgcaaaW.PrintLast Go.Proofs.YtondgoabnmgcaaaW.PrintMore
open Go.Proofs.YtondgoabnmgcaaaO.B (IsS63 octet_Reader_Number.calls)
open Go.Proofs.YtondgoabnmgcaaaO.R (rdv num_ok num_short rdv_range)
set_option linter.unusedSimpArgs false
set_option linter.unusedVariables false

theorem small_ok (w0 w : World) (g : Nat) (s : ByteArray) (p : Nat) (hs : s.size < 4611686018427387904) (h : p + 1 ≤ s.size) (hI : IsS63 w0 w g s p) (hB : Below w0.heap.size w0 w) :
    Calls Try.prog 27 #[.agg #[.pointer (some ⟨g, 0, none⟩)]] w fun e w' => e = .returned (.int .i64 (rdv s p 1)) ∧ IsS63 w0 w' g s ((p + 1 : Nat) : Int) ∧ Below w0.heap.size w0 w' ∧ KeepBut w w' g none := by
  have HI := Aside0.mk hI
  have HB := Aside0.mk hB
  have HN := Aside0.mk (num_ok s p 1 (by omega) (by omega) hs h)
  have hr := rdv_range s 1 p
  have hw : IntKind.i64.wrap (rdv s p 1) = rdv s p 1 := by rw [IntKind.wrap_i64]; omega
  generalize rdv s p 1 = v at HN hw ⊢
  clear hI hB h hr
  go_enter Try.func27, Try.ntmps27
  go_wp2_with (first
    | ((with_reducible refine gate_dst (N := 1) rfl ?_); refine box_event ?hg (N := 1) ?hd (cs := #[.pointer (some ⟨g, 0, none⟩)]) (t := 65) ?hr ?_; (case hd => rfl); (case hg => rfl); (case hr => first | (go_simp; done) | (go_simp; rfl)); intro g1 hg_ w1 hb_ hB_; have K1 := Aside0.mk hb_; have HI1 : Aside0 (IsS63 w0 w1 g s p) := ⟨blk_below HI.out.1 hB_, HI.out.2⟩; have HB1 := Aside0.mk (below_step HB.out hB_); have HK1 := Aside0.mk (KeepBut.of_below hB_ g none); have x1 : w1.cell? ⟨g1, 0, none⟩ = some (.pointer (some ⟨g, 0, none⟩)) := blk_cell K1.out 0; clear hg_ hb_ hB_)
    | (go_at_call 75; refine (octet_Reader_Number.calls 3 g s p 1 v 0 s ((p + 1 : Nat) : Int) w0 _ HI1.out HB1.out HN.out).mono ?_; rintro e w2 ⟨rfl, hi, hb, hk⟩; have HI2 := Aside0.mk hi; have HB2 := Aside0.mk hb; have HK2 := Aside0.mk (HK1.out.trans hk (.inl rfl)); clear hi hb hk)
    | (go_at_call 74; refine (must_num_ok v _).mono ?_; rintro e w3 ⟨rfl, rfl⟩))
  go_ret
  exact ⟨rfl, HI2.out, HB2.out, HK2.out⟩
theorem large_ok (w0 w : World) (g : Nat) (s : ByteArray) (p : Nat) (hs : s.size < 4611686018427387904) (h : p + 8 ≤ s.size) (hI : IsS63 w0 w g s p) (hB : Below w0.heap.size w0 w) :
    Calls Try.prog 28 #[.agg #[.pointer (some ⟨g, 0, none⟩)]] w fun e w' => e = .returned (.int .u64 (rdv s p 8)) ∧ IsS63 w0 w' g s ((p + 8 : Nat) : Int) ∧ Below w0.heap.size w0 w' ∧ KeepBut w w' g none := by
  have HI := Aside0.mk hI
  have HB := Aside0.mk hB
  have HN := Aside0.mk (num_ok s p 8 (by omega) (by omega) hs h)
  have hr := rdv_range s 8 p
  generalize rdv s p 8 = v at HN ⊢
  clear hI hB h hr
  go_enter Try.func28, Try.ntmps28
  go_wp2_with (first
    | ((with_reducible refine gate_dst (N := 1) rfl ?_); refine box_event ?hg (N := 1) ?hd (cs := #[.pointer (some ⟨g, 0, none⟩)]) (t := 65) ?hr ?_; (case hd => rfl); (case hg => rfl); (case hr => first | (go_simp; done) | (go_simp; rfl)); intro g1 hg_ w1 hb_ hB_; have K1 := Aside0.mk hb_; have HI1 : Aside0 (IsS63 w0 w1 g s p) := ⟨blk_below HI.out.1 hB_, HI.out.2⟩; have HB1 := Aside0.mk (below_step HB.out hB_); have HK1 := Aside0.mk (KeepBut.of_below hB_ g none); have x1 : w1.cell? ⟨g1, 0, none⟩ = some (.pointer (some ⟨g, 0, none⟩)) := blk_cell K1.out 0; clear hg_ hb_ hB_)
    | (go_at_call 75; refine (octet_Reader_Number.calls 10 g s p 8 v 0 s ((p + 8 : Nat) : Int) w0 _ HI1.out HB1.out HN.out).mono ?_; rintro e w2 ⟨rfl, hi, hb, hk⟩; have HI2 := Aside0.mk hi; have HB2 := Aside0.mk hb; have HK2 := Aside0.mk (HK1.out.trans hk (.inl rfl)); clear hi hb hk)
    | (go_at_call 74; refine (must_num_ok v _).mono ?_; rintro e w3 ⟨rfl, rfl⟩))
  go_ret
  exact ⟨rfl, HI2.out, HB2.out, HK2.out⟩
theorem small_bad (w0 w : World) (g : Nat) (s : ByteArray) (p : Nat) (hp : p ≤ s.size) (h : s.size < p + 1) (hI : IsS63 w0 w g s p) (hB : Below w0.heap.size w0 w) :
    Calls Try.prog 27 #[.agg #[.pointer (some ⟨g, 0, none⟩)]] w fun e w' => e = bad 10 ∧ Below w0.heap.size w0 w' ∧ KeepBut w w' g none := by
  have HI := Aside0.mk hI
  have HB := Aside0.mk hB
  have HN := Aside0.mk (num_short s p 1 (by omega) (by omega) hp h)
  clear hI hB h
  go_enter Try.func27, Try.ntmps27
  go_wp2_with (first
    | ((with_reducible refine gate_dst (N := 1) rfl ?_); refine box_event ?hg (N := 1) ?hd (cs := #[.pointer (some ⟨g, 0, none⟩)]) (t := 65) ?hr ?_; (case hd => rfl); (case hg => rfl); (case hr => first | (go_simp; done) | (go_simp; rfl)); intro g1 hg_ w1 hb_ hB_; have K1 := Aside0.mk hb_; have HI1 : Aside0 (IsS63 w0 w1 g s p) := ⟨blk_below HI.out.1 hB_, HI.out.2⟩; have HB1 := Aside0.mk (below_step HB.out hB_); have HK1 := Aside0.mk (KeepBut.of_below hB_ g none); have x1 : w1.cell? ⟨g1, 0, none⟩ = some (.pointer (some ⟨g, 0, none⟩)) := blk_cell K1.out 0; clear hg_ hb_ hB_)
    | (go_at_call 75; refine (octet_Reader_Number.calls 3 g s p 1 0 10 s p w0 _ HI1.out HB1.out HN.out).mono ?_; rintro e w2 ⟨rfl, hi, hb, hk⟩; have HI2 := Aside0.mk hi; have HB2 := Aside0.mk hb; have HK2 := Aside0.mk (HK1.out.trans hk (.inl rfl)); clear hi hb hk)
    | (go_at_call 74; refine (must_num_bad 0 10 (by decide) _).mono ?_; rintro e w3 ⟨rfl, rfl⟩))
  exact ⟨rfl, rfl, HB2.out, HK2.out⟩
theorem large_bad (w0 w : World) (g : Nat) (s : ByteArray) (p : Nat) (hp : p ≤ s.size) (h : s.size < p + 8) (hI : IsS63 w0 w g s p) (hB : Below w0.heap.size w0 w) :
    Calls Try.prog 28 #[.agg #[.pointer (some ⟨g, 0, none⟩)]] w fun e w' => e = bad 10 ∧ Below w0.heap.size w0 w' ∧ KeepBut w w' g none := by
  have HI := Aside0.mk hI
  have HB := Aside0.mk hB
  have HN := Aside0.mk (num_short s p 8 (by omega) (by omega) hp h)
  clear hI hB h
  go_enter Try.func28, Try.ntmps28
  go_wp2_with (first
    | ((with_reducible refine gate_dst (N := 1) rfl ?_); refine box_event ?hg (N := 1) ?hd (cs := #[.pointer (some ⟨g, 0, none⟩)]) (t := 65) ?hr ?_; (case hd => rfl); (case hg => rfl); (case hr => first | (go_simp; done) | (go_simp; rfl)); intro g1 hg_ w1 hb_ hB_; have K1 := Aside0.mk hb_; have HI1 : Aside0 (IsS63 w0 w1 g s p) := ⟨blk_below HI.out.1 hB_, HI.out.2⟩; have HB1 := Aside0.mk (below_step HB.out hB_); have HK1 := Aside0.mk (KeepBut.of_below hB_ g none); have x1 : w1.cell? ⟨g1, 0, none⟩ = some (.pointer (some ⟨g, 0, none⟩)) := blk_cell K1.out 0; clear hg_ hb_ hB_)
    | (go_at_call 75; refine (octet_Reader_Number.calls 10 g s p 8 0 10 s p w0 _ HI1.out HB1.out HN.out).mono ?_; rintro e w2 ⟨rfl, hi, hb, hk⟩; have HI2 := Aside0.mk hi; have HB2 := Aside0.mk hb; have HK2 := Aside0.mk (HK1.out.trans hk (.inl rfl)); clear hi hb hk)
    | (go_at_call 74; refine (must_num_bad 0 10 (by decide) _).mono ?_; rintro e w3 ⟨rfl, rfl⟩))
  exact ⟨rfl, rfl, HB2.out, HK2.out⟩
end Go.Proofs.Ytondgoabnmgcaaa.B
end
