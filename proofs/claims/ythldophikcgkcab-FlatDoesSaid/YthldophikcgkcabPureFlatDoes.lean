/- Plain memory tells what the document says: the walk (WalkFlatDoes) shows it whole; what is left is that the numbers handed in are such as an int holds. -/
import Derived.Test.YthldophikcgkcabPDoesx1
namespace Go.Proofs.Ythldophikcgkcab.Pure
open Go.RowKit Go.Proofs.Ythldophikcgkcab.PDoes Go.Proofs.YthldophikcgkcabW.PrintWords Go.Proofs.YthldophikcgkcabW.PrintLast Go.Proofs.Ythldophikcgkcab.X
theorem FlatDoes : tarnlaw35_FlatDoes.Pure := by
  intro a l b _ hw _
  unfold tarnlaw35_FlatDoes.f
  rw [if_pos (fun y hy => ⟨in_of_wf (hw.2 y hy).1, in_of_wf (hw.2 y hy).2.1, in_of_wf (hw.2 y hy).2.2.1, (hw.2 y hy).2.2.2.1⟩)]
end Go.Proofs.Ythldophikcgkcab.Pure
