/- By hand: the items that a law of layer 1 is handed. -/
import Derived.Test.YtaegblhfhgiapaaRefWrite
namespace Go.Proofs.Ytaegblhfhgiapaa.R
open Go.RowKit Go.Proofs.YtaegblhfhgiapaaW.PrintWords Go.Proofs.YtaegblhfhgiapaaW.PrintLast Go.Proofs.YtaegblhfhgiapaaW.PrintMore

structure It where
  kind : Int
  width : Int
  most : Int
  n : Int
  x : Nat
  s : ByteArray
def z45 : It := ⟨0, 0, 0, 0, 0, ⟨#[]⟩⟩
def kf : Kd Nat := Kd.scalar (fun n : Nat => Value.float .f64 n) (fun _ => rfl)
def k45 : Kd It := Kd.iso (Kd.pair (Kd.int .i64) (Kd.pair (Kd.int .i64) (Kd.pair (Kd.int .i64) (Kd.pair (Kd.int .u64) (Kd.pair kf Kd.string))))) (fun x : It => (x.kind, x.width, x.most, x.n, x.x, x.s))
theorem k45_open {w : World} {x : It} {cs : List Value} (h : k45.K w x cs) : cs = [.int .i64 x.kind, .int .i64 x.width, .int .i64 x.most, .int .u64 x.n, .float .f64 x.x, .string x.s] := by
  obtain ⟨_, _, rfl, rfl, _, _, rfl, rfl, _, _, rfl, rfl, _, _, rfl, rfl, _, _, rfl, h5, h6⟩ := h
  have h5' : _ = [Value.float .f64 x.x] := h5
  have h6' : _ = [Value.string x.s] := h6
  subst h5'
  subst h6'
  rfl
/-- an item's bounds -/
def wfIt (x : It) : Prop := (Lit.int .i64 x.kind).wf = true ∧ (Lit.int .i64 x.width).wf = true ∧ (Lit.int .i64 x.most).wf = true ∧ (Lit.int .u64 x.n).wf = true ∧ x.x < 18446744073709551616 ∧ x.s.size ≤ maxLen
theorem at_It {w : World} {A : Option Addr} {n : Nat} {xs : List It} (h : Kd.C k45 w A n xs) (k : Nat) (hk : k < n) : ∃ ad, A = some ad ∧
    w.cell? (ad.add (k * 6)) = some (.int .i64 (xs.getD k z45).kind) ∧ w.cell? ⟨(ad.add (k * 6)).block, (ad.add (k * 6)).off + 1, none⟩ = some (.int .i64 (xs.getD k z45).width) ∧
    w.cell? ⟨(ad.add (k * 6)).block, (ad.add (k * 6)).off + 2, none⟩ = some (.int .i64 (xs.getD k z45).most) ∧ w.cell? ⟨(ad.add (k * 6)).block, (ad.add (k * 6)).off + 3, none⟩ = some (.int .u64 (xs.getD k z45).n) ∧
    w.cell? ⟨(ad.add (k * 6)).block, (ad.add (k * 6)).off + 4, none⟩ = some (.float .f64 (xs.getD k z45).x) ∧ w.cell? ⟨(ad.add (k * 6)).block, (ad.add (k * 6)).off + 5, none⟩ = some (.string (xs.getD k z45).s) := by
  obtain ⟨ad, c, e, _, hK, hc0⟩ := Kd.C_get h z45 (k : Int) (by omega) (by omega)
  have hc : ∀ j u, c[j]? = some u → w.cell? (ad.add (k * 6 + j)) = some u := hc0
  obtain rfl := k45_open hK
  refine ⟨ad, e, hc 0 _ rfl, ?_, ?_, ?_, ?_, ?_⟩
  · rw [← add_field _ _ 1 (by omega)]; exact hc 1 _ rfl
  · rw [← add_field _ _ 2 (by omega)]; exact hc 2 _ rfl
  · rw [← add_field _ _ 3 (by omega)]; exact hc 3 _ rfl
  · rw [← add_field _ _ 4 (by omega)]; exact hc 4 _ rfl
  · rw [← add_field _ _ 5 (by omega)]; exact hc 5 _ rfl
theorem str_cat (L M : List Int) : strOfNums (L ++ M) = strOfNums L ++ strOfNums M := by
  apply ByteArray.ext
  apply Array.toList_inj.1
  rw [ByteArray.data_append, Array.toList_append, strOfNums_data, strOfNums_data, strOfNums_data, List.map_append]
theorem str_bytes (s : ByteArray) : strOfNums (bytesOf s) = s := by
  apply ByteArray.ext
  apply Array.toList_inj.1
  have := strOf_bytesOf [] s
  rw [List.nil_append] at this
  rw [this]
  rfl
end Go.Proofs.Ytaegblhfhgiapaa.R
