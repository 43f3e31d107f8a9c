/- The statement's boxes and stores, read by their kinds. No condition. -/
import Derived.Test.YtjheiahfhknakaaOpensTypes
import Derived.Test.YtjheiahfhknakaaSz
namespace Go.Proofs.Ytjheiahfhknakaa.G
open Go.RowKit Go.Proofs.YtjheiahfhknakaaW.PrintWords Go.Proofs.YtjheiahfhknakaaW.PrintLast Go.Proofs.YtjheiahfhknakaaW.PrintMore
instance : Inhabited S25 := ⟨⟨0, 0, [], []⟩⟩
theorem cells40 : Try.prog.cellsOf 40 = 1 := by kernel_rfl
theorem cells42 : Try.prog.cellsOf 42 = 7 := by kernel_rfl
theorem cells22 : Try.prog.cellsOf 22 = 1 := by kernel_rfl
theorem cells25 : Try.prog.cellsOf 25 = 4 := by kernel_rfl
def Q65 (x : S65) : Prop := WfI x.f0 ∧ (WfI x.f1 ∧ ((∀ r ∈ x.f2, WfI r.f0 ∧ (WfI r.f1.f0 ∧ WfI r.f1.f1)) ∧ x.f3.size ≤ maxLen))
def Q42 (x : S42) : Prop := WfI x.f0 ∧ (x.f1.size ≤ maxLen ∧ ((WfI x.f2.f0 ∧ WfI x.f2.f1) ∧ (WfI x.f3 ∧ ((∀ m ∈ x.f4, Q65 m) ∧ (∀ y ∈ x.f5, WfI y)))))
def Q25 (x : S25) : Prop := WfI x.f0 ∧ (WfI x.f1 ∧ ((∀ b ∈ x.f2, Q42 b) ∧ (∀ y ∈ x.f3, WfI y)))
theorem o40 : Opens Try.prog 40 (Kd.slice 65 k65) (fun l => ∀ m ∈ l, Q65 m) := Opens.slice Try.underlying40 cells65 o65 65
theorem o42 : Opens Try.prog 42 k42 Q42 :=
  Opens.struct Try.underlying42 cells42 (OpensF.cons 0 rfl cells3 o3 (OpensF.cons _ rfl cells9 o9 (OpensF.cons _ rfl cells39 o39 (OpensF.cons _ rfl cells3 o3 (OpensF.cons _ rfl cells40 o40 (OpensF.last _ rfl cells23 o23)))))) (fun a => (⟨a.1, a.2.1, a.2.2.1, a.2.2.2.1, a.2.2.2.2.1, a.2.2.2.2.2⟩ : S42)) (fun _ => rfl)
theorem o22 : Opens Try.prog 22 (Kd.slice 42 k42) (fun l => ∀ b ∈ l, Q42 b) := Opens.slice Try.underlying22 cells42 o42 42
theorem o25 : Opens Try.prog 25 k25 Q25 :=
  Opens.struct Try.underlying25 cells25 (OpensF.cons 0 rfl cells3 o3 (OpensF.cons _ rfl cells3 o3 (OpensF.cons _ rfl cells22 o22 (OpensF.last _ rfl cells23 o23)))) (fun a => (⟨a.1, a.2.1, a.2.2.1, a.2.2.2⟩ : S25)) (fun _ => rfl)
theorem big42 {b : S42} (h : Q42 b) : bigB b := ⟨by have := h.2.1; unfold maxLen at this; omega, fun m hm => by have := (h.2.2.2.2.1 m hm).2.2.2; unfold maxLen at this; omega⟩
theorem big25 {s : S25} (h : Q25 s) : ∀ b ∈ s.f2, bigB b := fun b hb => big42 (h.2.2.1 b hb)
end Go.Proofs.Ytjheiahfhknakaa.G
