/- With a writing more that never ended there is an order, if there was one without it: the walk (WalkSearchMore) shows it whole. -/
import Derived.Test.YthldophikcgkcaaPSrx2
namespace Go.Proofs.Ythldophikcgkcaa.Pure
open Go.RowKit Go.Proofs.Ythldophikcgkcaa.PSr Go.Proofs.YthldophikcgkcaaW.PrintWords Go.Proofs.YthldophikcgkcaaW.PrintLast Go.Proofs.Ythldophikcgkcaa.X
theorem SearchMore : tarnlaw40_SearchMore.Pure := by
  intro l0 a1 x0 x1 x2 x3 _ _ _
  rfl
end Go.Proofs.Ythldophikcgkcaa.Pure
