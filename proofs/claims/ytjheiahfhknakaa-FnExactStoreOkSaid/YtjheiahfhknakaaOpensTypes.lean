/- The statements' own types, read by their kinds: stamps, registers, mails. No condition. -/
import Derived.Test.YtjheiahfhknakaaOpens
namespace Go.Proofs.Ytjheiahfhknakaa.G
open Go.RowKit Go.Proofs.YtjheiahfhknakaaW.PrintWords Go.Proofs.YtjheiahfhknakaaW.PrintLast Go.Proofs.YtjheiahfhknakaaW.PrintMore
def WfI (n : Int) : Prop := (Lit.int .i64 n).wf = true
instance : Inhabited S179 := ⟨z179⟩
instance : Inhabited S65 := ⟨z65⟩
instance : Inhabited S42 := ⟨z42⟩
theorem cells3 : Try.prog.cellsOf 3 = 1 := by kernel_rfl
theorem cells9 : Try.prog.cellsOf 9 = 1 := by kernel_rfl
theorem cells23 : Try.prog.cellsOf 23 = 1 := by kernel_rfl
theorem cells39 : Try.prog.cellsOf 39 = 2 := by kernel_rfl
theorem cells179 : Try.prog.cellsOf 179 = 3 := by kernel_rfl
theorem cells63 : Try.prog.cellsOf 63 = 1 := by kernel_rfl
theorem cells65 : Try.prog.cellsOf 65 = 4 := by kernel_rfl
theorem o3 : Opens Try.prog 3 (Kd.int .i64) WfI := Opens.int Try.underlying3
theorem o9 : Opens Try.prog 9 Kd.string (fun s => s.size ≤ maxLen) := Opens.string Try.underlying9
theorem o23 : Opens Try.prog 23 (Kd.slice 3 (Kd.int .i64)) (fun l => ∀ x ∈ l, WfI x) := Opens.slice Try.underlying23 cells3 o3 3
theorem o39 : Opens Try.prog 39 k39 (fun x => WfI x.f0 ∧ WfI x.f1) :=
  Opens.struct Try.underlying39 cells39 (OpensF.cons 0 rfl cells3 o3 (OpensF.last _ rfl cells3 o3)) (fun a => (⟨a.1, a.2⟩ : S39)) (fun _ => rfl)
theorem o179 : Opens Try.prog 179 k179 (fun x => WfI x.f0 ∧ (WfI x.f1.f0 ∧ WfI x.f1.f1)) :=
  Opens.struct Try.underlying179 cells179 (OpensF.cons 0 rfl cells3 o3 (OpensF.last _ rfl cells39 o39)) (fun a => (⟨a.1, a.2⟩ : S179)) (fun _ => rfl)
theorem o63 : Opens Try.prog 63 (Kd.slice 179 k179) (fun l => ∀ x ∈ l, WfI x.f0 ∧ (WfI x.f1.f0 ∧ WfI x.f1.f1)) := Opens.slice Try.underlying63 cells179 o179 179
theorem o65 : Opens Try.prog 65 k65 (fun x => WfI x.f0 ∧ (WfI x.f1 ∧ ((∀ r ∈ x.f2, WfI r.f0 ∧ (WfI r.f1.f0 ∧ WfI r.f1.f1)) ∧ x.f3.size ≤ maxLen))) :=
  Opens.struct Try.underlying65 cells65 (OpensF.cons 0 rfl cells3 o3 (OpensF.cons _ rfl cells3 o3 (OpensF.cons _ rfl cells63 o63 (OpensF.last _ rfl cells9 o9)))) (fun a => (⟨a.1, a.2.1, a.2.2.1, a.2.2.2⟩ : S65)) (fun _ => rfl)
end Go.Proofs.Ytjheiahfhknakaa.G
