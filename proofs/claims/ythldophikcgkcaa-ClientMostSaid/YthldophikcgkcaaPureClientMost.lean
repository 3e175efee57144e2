/- So many events are noted, and no more asked for; no history has none: the walk (WalkClientMost) shows it whole. -/
import Derived.Test.YthldophikcgkcaaPMostx1
namespace Go.Proofs.Ythldophikcgkcaa.Pure
open Go.RowKit Go.Proofs.Ythldophikcgkcaa.PMost Go.Proofs.YthldophikcgkcaaW.PrintWords Go.Proofs.YthldophikcgkcaaW.PrintLast Go.Proofs.Ythldophikcgkcaa.X
theorem ClientMost : tarnlaw34_ClientMost.Pure := by
  intro n _
  rfl
end Go.Proofs.Ythldophikcgkcaa.Pure
