/- What is read of an argument, opened as the printed kinds tell it: a law's arguments of whatever kind (structs, slices of structs, slices of slices). -/
import Derived.Test.YtkjjegakfceibaaDoorWWords
import Derived.ChangeArms
import Derived.Deep.Slices
import Derived.ChangeSlices
import Derived.Laws.Cover2
namespace Go.Proofs.YtkjjegakfceibaaDoor.Open
open Go.RowKit Go.ChangeShapes Go.WideShapes Go.Deep Go.Proofs.YtkjjegakfceibaaDoorW.PrintWords
set_option linter.unusedVariables false

/-- Whatever reads at type t is of the kind d, and within its bounds. -/
def Opens (P : Program) (t : TypeId) {α : Type} (d : Kd α) (WF : α → Prop) : Prop :=
  ∀ (H : Type) (enc : TypeId × Value → H) (w : World) (base : Nat) (spare : Nat → Bool) (held : Bool) (fuel : Nat) (cs : List Value) (x : DataW H × List MemPlace),
    DataW.trod enc P w base spare held fuel t cs = some x → ∃ a, d.K w a cs ∧ WF a

theorem Opens.int {P : Program} {t : TypeId} {k : IntKind} (hu : P.underlying t = some (.int k)) : Opens P t (Kd.int k) (fun n => (Lit.int k n).wf = true) := by
  intro H enc w base spare held fuel cs x h
  obtain ⟨n, rfl, _, hw⟩ := DataW.trod_int hu h
  exact ⟨n, rfl, hw⟩
theorem Opens.bool {P : Program} {t : TypeId} (hu : P.underlying t = some .bool) : Opens P t Kd.bool (fun _ => True) := by
  intro H enc w base spare held fuel cs x h
  obtain ⟨n, rfl, _⟩ := DataW.trod_bool hu h
  exact ⟨n, rfl, trivial⟩
theorem Opens.string {P : Program} {t : TypeId} (hu : P.underlying t = some .string) : Opens P t Kd.string (fun s => s.size ≤ maxLen) := by
  intro H enc w base spare held fuel cs x h
  obtain ⟨n, rfl, _, hs⟩ := DataW.trod_string hu h
  exact ⟨n, rfl, hs⟩
theorem Opens.float {P : Program} {t : TypeId} (hu : P.underlying t = some (.float .f64)) : Opens P t (Kd.scalar (fun n : Nat => Value.float .f64 n) (fun _ => rfl)) (fun n => n < 18446744073709551616) := by
  intro H enc w base spare held fuel cs x h
  cases fuel with
  | zero => simp [DataW.trod] at h
  | succ m =>
    unfold DataW.trod at h
    rw [hu] at h
    split at h <;> simp_all
    rename_i k k' b e1 e2
    subst e2
    obtain ⟨⟨_, hw⟩, _⟩ := h
    exact ⟨b, rfl, by simpa [Lit.wf] using hw⟩
theorem Opens.iso {P : Program} {t : TypeId} {α β : Type} {d : Kd α} {WF : α → Prop} (h : Opens P t d WF) (f : β → α) (g : α → β) (hfg : ∀ x, f (g x) = x) : Opens P t (Kd.iso d f) (fun x => WF (f x)) := by
  intro H enc w base spare held fuel cs x hx
  obtain ⟨a, hK, hW⟩ := h H enc w base spare held fuel cs x hx
  exact ⟨g a, by show d.K w (f (g a)) cs; rw [hfg]; exact hK, by show WF (f (g a)); rw [hfg]; exact hW⟩

theorem exists_list {α : Type} (R : Nat → α → Prop) : ∀ n, (∀ i, i < n → ∃ a, R i a) → ∃ l : List α, l.length = n ∧ ∀ (i : Nat) (a : α), l[i]? = some a → R i a
  | 0, _ => ⟨[], rfl, fun i a h => by simp at h⟩
  | n + 1, h => by
    obtain ⟨l, hl, hr⟩ := exists_list R n (fun i hi => h i (by omega))
    obtain ⟨a, ha⟩ := h n (by omega)
    refine ⟨l ++ [a], by simp [hl], fun i b hb => ?_⟩
    rcases Nat.lt_or_ge i l.length with hi | hi
    · rw [List.getElem?_append_left hi] at hb
      exact hr i b hb
    · have e : i = n := by
        have := (List.getElem?_eq_some_iff.1 hb).1
        rw [List.length_append, List.length_singleton] at this
        omega
      subst e
      rw [List.getElem?_append_right hi, hl, Nat.sub_self] at hb
      simp at hb
      subst hb
      exact ha

theorem Opens.slice {P : Program} {t e : TypeId} {α : Type} {d : Kd α} {WF : α → Prop} (h : Opens P e d WF) (hu : P.underlying t = some (.slice e)) (hc : P.cellsOf e = d.sz) : Opens P t (Kd.slice e d) (fun l => l.length ≤ maxLen ∧ ∀ a ∈ l, WF a) := by
  intro H enc w base spare held fuel cs x hx
  rcases open_slice hu hx with ⟨rfl, _⟩ | ⟨a, len, cap, m, n, D, Pl, rfl, hb, hl, hm, hmm, _, hel⟩
  · exact ⟨[], ⟨none, 0, rfl, Nat.le_refl _, rfl, by simp, fun h0 => absurd h0 (by simp)⟩, by simp, fun a ha => by simp at ha⟩
  · have hlm : len ≤ m := by rw [hmm]; split <;> omega
    obtain ⟨l, hlen, hr⟩ := exists_list (fun i (el : α) => ∃ cs', w.cells? base (a.add (i * P.cellsOf e)) (P.cellsOf e) = some cs' ∧ d.K w el cs' ∧ WF el) len (fun i hi => by
      obtain ⟨cs', h1, h2⟩ := hel i (by omega)
      obtain ⟨el, hK, hW⟩ := h H enc w base spare held n cs' _ h2
      exact ⟨el, cs', h1, hK, hW⟩)
    refine ⟨l, ⟨some a, cap, by rw [hlen], by omega, rfl, ?_, fun h0 => ⟨a, rfl, fun j p hp => ?_⟩⟩, ?_, fun el hel' => ?_⟩
    · rw [hlen]; unfold maxLen at hm; omega
    · obtain ⟨cs', h1, hK, _⟩ := hr j p hp
      refine ⟨cs', d.K_len hK, hK, fun i u hi => ?_⟩
      obtain ⟨_, hcl, hat⟩ := World.cells?_some h1
      have hil : i < P.cellsOf e := by rw [hc, ← d.K_len hK]; exact (List.getElem?_eq_some_iff.1 hi).1
      rw [← hc, ← Go.Deep.add_add, hat i hil]
      exact hi
    · rw [hlen]; omega
    · obtain ⟨i, hi⟩ := List.mem_iff_getElem?.1 hel'
      obtain ⟨_, _, _, hW⟩ := hr i el hi
      exact hW

/-- The fields fs of a struct, which lie from cell 'off' on, are of the kind d. -/
def OpensFs (P : Program) (fs : List Field) (off : Nat) {α : Type} (d : Kd α) (WF : α → Prop) : Prop :=
  ∀ (H : Type) (enc : TypeId × Value → H) (w : World) (base : Nat) (spare : Nat → Bool) (held : Bool) (fuel : Nat) (cs : List Value),
    cs.length = off + d.sz → (∀ f ∈ fs, ∃ y, DataW.trod enc P w base spare held fuel f.type ((cs.drop f.offset).take (P.cellsOf f.type)) = some y) → ∃ a, d.K w a (cs.drop off) ∧ WF a
theorem OpensFs.one {P : Program} {f : Field} {off : Nat} {α : Type} {d : Kd α} {WF : α → Prop} (h : Opens P f.type d WF) (ho : f.offset = off) (hc : P.cellsOf f.type = d.sz) : OpensFs P [f] off d WF := by
  intro H enc w base spare held fuel cs hl hf
  obtain ⟨y, hy⟩ := hf f (by simp)
  rw [ho, hc, List.take_of_length_le (by rw [List.length_drop]; omega)] at hy
  exact h H enc w base spare held fuel _ _ hy
theorem OpensFs.cons {P : Program} {f : Field} {fs : List Field} {off off' : Nat} {α β : Type} {d : Kd α} {d' : Kd β} {WF : α → Prop} {WF' : β → Prop} (h : Opens P f.type d WF) (ho : f.offset = off) (hc : P.cellsOf f.type = d.sz) (hoff : off' = off + d.sz)
    (hs : OpensFs P fs off' d' WF') : OpensFs P (f :: fs) off (Kd.pair d d') (fun x => WF x.1 ∧ WF' x.2) := by
  intro H enc w base spare held fuel cs hl hf
  have hsz : (Kd.pair d d').sz = d.sz + d'.sz := rfl
  obtain ⟨y, hy⟩ := hf f (by simp)
  rw [ho, hc] at hy
  obtain ⟨a, hK, hW⟩ := h H enc w base spare held fuel _ _ hy
  obtain ⟨b, hK', hW'⟩ := hs H enc w base spare held fuel cs (by omega) (fun g hg => hf g (List.mem_cons_of_mem _ hg))
  refine ⟨(a, b), ⟨_, _, ?_, hK, hK'⟩, hW, hW'⟩
  rw [hoff, ← List.drop_drop, List.take_append_drop]
theorem Opens.struct {P : Program} {t : TypeId} {fs : Array Field} {α : Type} {d : Kd α} {WF : α → Prop} (hs : OpensFs P fs.toList 0 d WF) (hu : P.underlying t = some (.struct fs)) (hc : P.cellsOf t = d.sz) : Opens P t d WF := by
  intro H enc w base spare held fuel cs x hx
  obtain ⟨xs, n, _, _, hl, hxl, hf⟩ := DataW.trod_struct hu hx
  have := hs H enc w base spare held n cs (by omega) (fun f hfm => by
    obtain ⟨i, hi⟩ := List.mem_iff_getElem?.1 hfm
    have hi' : fs[i]? = some f := by simpa using hi
    have h1 := hf i f hi'
    have hil : i < xs.length := by
      rw [hxl]
      exact (Array.getElem?_eq_some_iff.1 hi').1
    rw [List.getElem?_eq_getElem hil] at h1
    exact ⟨_, h1⟩)
  simpa using this
end Go.Proofs.YtkjjegakfceibaaDoor.Open
