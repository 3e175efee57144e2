/- Whatever is asked and told: each thing is told once at most, and all is noted in order: the walk (WalkClientPlays) shows it whole; what is left is that the numbers handed in are such as an int holds. -/
import Derived.Test.YthldophikcgkcaaPPlaysx1
namespace Go.Proofs.Ythldophikcgkcaa.Pure
open Go.RowKit Go.Proofs.Ythldophikcgkcaa.PPlays Go.Proofs.YthldophikcgkcaaW.PrintWords Go.Proofs.YthldophikcgkcaaW.PrintLast Go.Proofs.Ythldophikcgkcaa.X
theorem ClientPlays : tarnlaw34_ClientPlays.Pure := by
  intro l hw
  unfold tarnlaw34_ClientPlays.f
  rw [if_pos (fun y hy => Y.wf_in (hw.2 y hy).2.2.2.1)]
end Go.Proofs.Ythldophikcgkcaa.Pure
