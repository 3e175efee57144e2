/- Nodes that are down are left out, others put behind: told as the document says; the walk (WalkPlaceMends) shows it whole. -/
import Derived.Test.YthldophikcgkcaaPMendsx1
namespace Go.Proofs.Ythldophikcgkcaa.Pure
open Go.RowKit Go.Proofs.Ythldophikcgkcaa.PMends Go.Proofs.YthldophikcgkcaaW.PrintWords Go.Proofs.YthldophikcgkcaaW.PrintLast Go.Proofs.Ythldophikcgkcaa.X
theorem PlaceMends : tarnlaw41_PlaceMends.Pure := by
  intro a b c l1 l2 x0 x1 x2 x3 x4 _
  rfl
end Go.Proofs.Ythldophikcgkcaa.Pure
