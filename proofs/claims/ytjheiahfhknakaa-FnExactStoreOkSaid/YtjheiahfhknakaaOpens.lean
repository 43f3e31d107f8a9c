/- An argument that can be read as data is read by a kind: whole numbers, texts, slices, structs in line. No condition. -/
import Derived.Test.YtjheiahfhknakaaF0
import Derived.Deep.Slices
import Derived.ChangeArms
namespace Go.Proofs.Ytjheiahfhknakaa.G
open Go.RowKit Go.Proofs.YtjheiahfhknakaaW.PrintWords Go.Proofs.YtjheiahfhknakaaW.PrintLast Go.Proofs.YtjheiahfhknakaaW.PrintMore
set_option linter.unusedVariables false

/-- What reads as data at type t reads by kind d, and Q holds of it. -/
def Opens (P : Program) {α : Type} (t : TypeId) (d : Kd α) (Q : α → Prop) : Prop :=
  ∀ (H : Type) (enc : TypeId × Value → H) (w : World) (base : Nat) (spare : Nat → Bool) (held : Bool) (fuel : Nat) (cs : List Value) (x : DataW H × List MemPlace), DataW.trod enc P w base spare held fuel t cs = some x → ∃ a, d.K w a cs ∧ Q a
theorem Opens.int {P : Program} {t : TypeId} {k : IntKind} (ht : P.underlying t = some (.int k)) : Opens P t (Kd.int k) (fun n => (Lit.int k n).wf = true) := by
  intro H enc w base spare held fuel cs x h
  obtain ⟨n, rfl, _, hw⟩ := DataW.trod_int ht h
  exact ⟨n, rfl, hw⟩
theorem Opens.string {P : Program} {t : TypeId} (ht : P.underlying t = some .string) : Opens P t Kd.string (fun s => s.size ≤ maxLen) := by
  intro H enc w base spare held fuel cs x h
  obtain ⟨s, rfl, _, hs⟩ := DataW.trod_string ht h
  exact ⟨s, rfl, hs⟩
theorem Opens.slice {P : Program} {t e : TypeId} {α : Type} [Inhabited α] {d : Kd α} {Q : α → Prop} (ht : P.underlying t = some (.slice e)) (hsz : P.cellsOf e = d.sz) (he : Opens P e d Q) (e' : Nat) : Opens P t (Kd.slice e' d) (fun xs => ∀ x ∈ xs, Q x) := by
  intro H enc w base spare held fuel cs x h
  rcases Deep.open_slice ht h with ⟨rfl, _⟩ | ⟨a, len, cap, m, n, D, Pl, rfl, hb, hl, hm, hmm, _, hel⟩
  · exact ⟨[], ⟨none, 0, rfl, Nat.le_refl _, rfl, by simp, fun hn => absurd hn (by simp)⟩, fun x hx => by cases hx⟩
  · have hlm : len ≤ m := by rw [hmm]; split <;> omega
    obtain ⟨f, hf⟩ := Deep.choose_lt (p := fun i (y : α) => ∃ c, w.cells? base (a.add (i * d.sz)) d.sz = some c ∧ d.K w y c ∧ Q y) (n := len) (fun i hi => by
      obtain ⟨c, h1, h2⟩ := hel i (by omega)
      obtain ⟨y, hy, hq⟩ := he H enc w base spare held n c _ h2
      rw [hsz] at h1
      exact ⟨y, c, h1, hy, hq⟩)
    have hlen : ((List.range len).map f).length = len := by simp
    refine ⟨(List.range len).map f, ⟨some a, cap, by rw [hlen], by rw [hlen]; exact hl, ?_⟩, ?_⟩
    · refine ⟨rfl, by rw [hlen]; unfold maxLen at hm; omega, fun hn => ⟨a, rfl, fun j p hj => ?_⟩⟩
      have hjl : j < len := by have := (List.getElem?_eq_some_iff.1 hj).1; omega
      have hp : p = f j := by
        rw [List.getElem?_map, List.getElem?_range hjl] at hj
        exact (Option.some.inj hj).symm
      subst hp
      obtain ⟨c, h1, h2, _⟩ := hf j hjl
      obtain ⟨_, h3, h4⟩ := World.cells?_some h1
      refine ⟨c, h3, h2, fun i u hu => ?_⟩
      have hi : i < d.sz := by have := (List.getElem?_eq_some_iff.1 hu).1; omega
      rw [← Deep.add_add, h4 i hi, hu]
    · intro x hx
      obtain ⟨i, hi, rfl⟩ := List.mem_map.1 hx
      obtain ⟨_, _, _, hq⟩ := hf i (List.mem_range.1 hi)
      exact hq
/-- Fields in line, from cell off on. -/
def OpensF (P : Program) {α : Type} (fs : List Field) (off : Nat) (d : Kd α) (Q : α → Prop) : Prop :=
  ∀ (H : Type) (enc : TypeId × Value → H) (w : World) (base : Nat) (spare : Nat → Bool) (held : Bool) (fuel : Nat) (cs : List Value),
    (∀ f ∈ fs, ∃ y, DataW.trod enc P w base spare held fuel f.type ((cs.drop f.offset).take (P.cellsOf f.type)) = some y) → cs.length = off + d.sz → ∃ a, d.K w a (cs.drop off) ∧ Q a
theorem OpensF.last {P : Program} {α : Type} {d : Kd α} {Q : α → Prop} {f : Field} (off : Nat) (ho : f.offset = off) (hs : P.cellsOf f.type = d.sz) (h : Opens P f.type d Q) : OpensF P [f] off d Q := by
  intro H enc w base spare held fuel cs hm hl
  obtain ⟨y, hy⟩ := hm f List.mem_cons_self
  obtain ⟨a, h1, h2⟩ := h H enc w base spare held fuel _ y hy
  rw [ho, hs, List.take_of_length_le (by rw [List.length_drop]; omega)] at h1
  exact ⟨a, h1, h2⟩
theorem OpensF.cons {P : Program} {α β : Type} {d : Kd α} {d' : Kd β} {Q : α → Prop} {Q' : β → Prop} {f : Field} {fs : List Field} (off : Nat) (ho : f.offset = off) (hs : P.cellsOf f.type = d.sz) (h : Opens P f.type d Q) (h' : OpensF P fs (off + d.sz) d' Q') :
    OpensF P (f :: fs) off (Kd.pair d d') (fun x => Q x.1 ∧ Q' x.2) := by
  intro H enc w base spare held fuel cs hm hl
  have hl2 : cs.length = off + d.sz + d'.sz := by rw [hl]; exact (Nat.add_assoc _ _ _).symm
  obtain ⟨y, hy⟩ := hm f List.mem_cons_self
  obtain ⟨a, h1, h2⟩ := h H enc w base spare held fuel _ y hy
  obtain ⟨b, h3, h4⟩ := h' H enc w base spare held fuel cs (fun f hf => hm f (List.mem_cons_of_mem _ hf)) hl2
  rw [ho, hs] at h1
  refine ⟨(a, b), ⟨_, _, ?_, h1, h3⟩, h2, h4⟩
  rw [← List.drop_drop, List.take_append_drop]
theorem Opens.struct {P : Program} {α β : Type} {t : TypeId} {fs : Array Field} {d : Kd α} {Q : α → Prop} (ht : P.underlying t = some (.struct fs)) (hsz : P.cellsOf t = d.sz) (h : OpensF P fs.toList 0 d Q) {f : β → α} (g : α → β) (hfg : ∀ a, f (g a) = a) :
    Opens P t (Kd.iso d f) (fun x => Q (f x)) := by
  intro H enc w base spare held fuel cs x hx
  obtain ⟨xs, n, _, _, hl, hlen, hm⟩ := DataW.trod_struct ht hx
  obtain ⟨a, h1, h2⟩ := h H enc w base spare held n cs (fun f hf => by
    obtain ⟨i, hi, rfl⟩ := List.mem_iff_getElem.1 hf
    have hi2 : i < xs.length := by rw [hlen, ← Array.length_toList]; exact hi
    have hi3 : fs[i]? = some fs.toList[i] := by rw [← Array.getElem?_toList, List.getElem?_eq_getElem hi]
    exact ⟨xs[i], by rw [hm i _ hi3]; exact List.getElem?_eq_getElem hi2⟩) (by rw [hl, hsz, Nat.zero_add])
  exact ⟨g a, by show d.K w (f (g a)) cs; rw [hfg]; exact h1, by show Q (f (g a)); rw [hfg]; exact h2⟩
/-- An argument of a row. -/
theorem Opens.arg {P : Program} {α : Type} {t : TypeId} {d : Kd α} {Q : α → Prop} (h : Opens P t d Q) {H : Type} {enc : TypeId × Value → H} {w : World} {v : Value} {x : DataW H} {ps : List MemPlace} (hT : DataW.Trod enc P w 0 (fun _ => true) true t v x ps) :
    ∃ a, d.K w a v.cells.toList ∧ Q a := by
  obtain ⟨fuel, hf⟩ := hT
  exact h H enc w 0 _ true fuel _ _ hf
end Go.Proofs.Ytjheiahfhknakaa.G
