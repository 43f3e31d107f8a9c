/- A variable in memory with what it leads to, within a range of blocks: what calls that only make memory, and marks in another range, leave of it. No condition. -/
import Derived.Test.YtjheiahfhknakaaF0
namespace Go.Proofs.Ytjheiahfhknakaa.G
open Go.RowKit Go.Proofs.YtjheiahfhknakaaW.PrintWords Go.Proofs.YtjheiahfhknakaaW.PrintLast Go.Proofs.YtjheiahfhknakaaW.PrintMore
set_option linter.unusedVariables false

/-- Only blocks of S, and new ones, are another; nothing else of the world has turned. -/
structure Wrote (w w1 : World) (S : Nat → Prop) : Prop where
  os : w1.os = w.os
  tape : w1.tape = w.tape
  output : w1.output = w.output
  kept : Kept w w1 S
section
variable {w w1 w2 : World} {S T : Nat → Prop}
theorem Wrote.refl (w : World) (S : Nat → Prop) : Wrote w w S := ⟨rfl, rfl, rfl, Kept.refl w S⟩
theorem Wrote.mono (h : Wrote w w1 S) (hs : ∀ k, S k → T k) : Wrote w w1 T := ⟨h.os, h.tape, h.output, h.kept.mono hs⟩
theorem Wrote.of_below (h : Below w.heap.size w w1) (S : Nat → Prop) : Wrote w w1 S := ⟨h.os, h.tape, h.output, Kept.of_below h S⟩
theorem Wrote.of_grown {g : Nat} (h : w.grownBy w1 (some g)) : Wrote w w1 (fun b => b = g) :=
  ⟨h.os, h.tape, h.output, Kept.of_grown h (Kept.refl w _) (fun k hk => .inl (by injection hk with hk; exact hk.symm))⟩
theorem Wrote.then_ (h : Wrote w w1 S) (k : Wrote w1 w2 T) (hs : ∀ k, T k → S k ∨ w.heap.size ≤ k) : Wrote w w2 S :=
  ⟨k.os.trans h.os, k.tape.trans h.tape, k.output.trans h.output, h.kept.then_ k.kept hs⟩
theorem Wrote.below {B : Nat} {w0 : World} (h : Wrote w w1 S) (hb : Below B w0 w) (hB : B ≤ w.heap.size) (hs : ∀ k, S k → B ≤ k) : Below B w0 w1 :=
  ⟨h.os.trans hb.os, h.tape.trans hb.tape, h.output.trans hb.output, Nat.le_trans hb.size h.kept.1, fun i hi => (h.kept.2 i (by omega) (fun hk => by have := hs i hk; omega)).trans (hb.block i hi)⟩
end
/-- Block g holds a value of type ty, of kind d; g and all that it leads to lie in lo .. hi - 1. -/
def VarAt {α : Type} (d : Kd α) (ty : Nat) (w : World) (g lo hi : Nat) (x : α) : Prop :=
  lo ≤ g ∧ g < hi ∧ hi ≤ w.heap.size ∧ ∃ cs, w.heap[g]? = some (.cells cs.toArray ty (0, 0)) ∧ d.M w lo (fun k => lo ≤ k ∧ k < hi) x cs
section
variable {α : Type} {d : Kd α} {ty g lo hi : Nat} {w w1 : World} {x : α}
theorem VarAt.kept (h : VarAt d ty w g lo hi x) {S : Nat → Prop} (hk : Kept w w1 S) (hS : ∀ k, lo ≤ k → k < hi → ¬ S k) : VarAt d ty w1 g lo hi x := by
  obtain ⟨h1, h2, h3, cs, hb, hM⟩ := h
  exact ⟨h1, h2, Nat.le_trans h3 hk.1, cs, blk_kept hb hk (hS g h1 h2), Kd.M_kept hM hk (fun k hk2 => hS k hk2.1 hk2.2)⟩
theorem VarAt.wrote (h : VarAt d ty w g lo hi x) {S : Nat → Prop} (hk : Wrote w w1 S) (hS : ∀ k, lo ≤ k → k < hi → ¬ S k) : VarAt d ty w1 g lo hi x := h.kept hk.kept hS
theorem VarAt.below (h : VarAt d ty w g lo hi x) (hb : Below w.heap.size w w1) : VarAt d ty w1 g lo hi x :=
  h.kept (Kept.of_below hb (fun _ => False)) (fun _ _ _ hk => hk)
theorem VarAt.new {cs : List Value} {lo : Nat} (hM : d.M w1 lo (fun _ => True) x cs) (hlo : lo ≤ w1.heap.size) : VarAt d ty (w1.alloc (.cells cs.toArray ty)) w1.heap.size lo (w1.heap.size + 1) x := by
  refine ⟨hlo, by omega, by simp, cs, heap_alloc_new w1 _, ?_⟩
  exact Kd.M_below (d.M_mono (fun k hk => ⟨hk.2.1, by have := hk.2.2.1; omega⟩) (d.M_bound hM)) (below_alloc (Below.refl _ _) _)
/-- The variable lay there, its cells are written anew. -/
theorem VarAt.put {cs : List Value} {lo g : Nat} (hb : w1.heap[g]? = some (.cells cs.toArray ty (0, 0))) (hM : d.M w1 lo (fun _ => True) x cs) (hlo : lo ≤ g) : VarAt d ty w1 g lo w1.heap.size x :=
  ⟨hlo, blk_lt hb, Nat.le_refl _, cs, hb, d.M_mono (fun k hk => ⟨hk.2.1, hk.2.2.1⟩) (d.M_bound hM)⟩
theorem VarAt.lower (h : VarAt d ty w g lo hi x) {lo' hi' : Nat} (hl : lo' ≤ lo) (hh : hi ≤ hi') (hw : hi' ≤ w.heap.size) : VarAt d ty w g lo' hi' x := by
  obtain ⟨h1, h2, h3, cs, hb, hM⟩ := h
  exact ⟨by omega, by omega, hw, cs, hb, d.M_mono (fun k hk => ⟨by omega, by omega⟩) (d.M_lower hl hM)⟩
end
end Go.Proofs.Ytjheiahfhknakaa.G
